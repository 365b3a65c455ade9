/- Contracts of a table's methods on rising rows; 'heads' and 'made' of the laws of layer 6. -/
import Derived.Test.YtcjnmipmdnlkmaaTabC
import Derived.StillTailTactics
namespace Go.Proofs.Ytcjnmipmdnlkmaa.TabD
set_option linter.unusedVariables false
open Go.RowKit Go.Proofs.YtcjnmipmdnlkmaaW.PrintWords Go.Proofs.YtcjnmipmdnlkmaaW.PrintLast Go.Proofs.YtcjnmipmdnlkmaaW.PrintMore Go.Proofs.Ytcjnmipmdnlkmaa.TabP Go.Proofs.Ytcjnmipmdnlkmaa.TabE Go.Proofs.Ytcjnmipmdnlkmaa.TabC Go.Proofs.Ytcjnmipmdnlkmaa.Q
/-- A table with the rising row l. -/
def IsT (W : World) (B g : Nat) (l : List Pr) : Prop := IsM W B g (l.map mk57)
theorem IsT.below {W W1 : World} {B g : Nat} {l : List Pr} (h : IsT W B g l) (hb : Below W.heap.size W W1) : IsT W1 B g l := IsM.below h hb
theorem IsT.drewN {W : World} {B g : Nat} {l : List Pr} (h : IsT W B g l) (j : Nat) : IsT (W.drewN j) B g l := h
theorem IsT.blk {W : World} {B g : Nat} {l : List Pr} (h : IsT W B g l) : ∃ cells, W.heap[g]? = some (.cells cells 41 (0, 0)) := by
  obtain ⟨A, c, h1, _⟩ := h
  exact ⟨_, h1⟩
theorem IsT.base {W : World} {B g : Nat} {l : List Pr} (h : IsT W B g l) : B ≤ g := by
  obtain ⟨A, c, _, h2, _⟩ := h
  exact h2
theorem IsT.lt {W : World} {B g : Nat} {l : List Pr} (h : IsT W B g l) : g < W.heap.size := IsM.lt h
/-- Another table is written: this one stays. -/
theorem IsT.other {W W1 : World} {B g k : Nat} {l m : List Pr} (h : IsT W B g l) (hk : IsT W B k m) (hg : W.grownBy W1 (some k)) (hne : g ≠ k) : IsT W1 B g l := by
  obtain ⟨cells, hb⟩ := hk.blk
  exact IsM.grown h hb (by decide) hg hne
theorem types31 {q : Nat} (hq : q ∈ 31 :: k31.E) : q = 31 := by
  simpa [k31, Kd.iso, Kd.pair, Kd.string, Kd.scalar] using hq
/-- A row of pairs of the reference stays, when a table is written. -/
theorem R31_put {W W1 : World} {B b k : Nat} {v : Value} {m : List S31} {l : List Pr} (h : Kd.R k31 31 W b (fun _ => True) v m) (hk : IsT W B k l) (hg : W.grownBy W1 (some k)) : Kd.R k31 31 W1 b (fun _ => True) v m := by
  obtain ⟨cells, hb⟩ := hk.blk
  exact Kd.R_mono (Kd.R_grown (Kd.R_types h hb (fun q hq => by have := types31 hq; omega)) hg (fun k' hk' => by simpa using hk'.2)) (fun _ h => h.1)
theorem below_put {w W W1 : World} {k : Nat} {l : List Pr} (h : Below w.heap.size w W) (hk : IsT W w.heap.size k l) (hg : W.grownBy W1 (some k)) : Below w.heap.size w W1 :=
  h.grown hg h.size (fun j hj => by injection hj with hj; subst hj; exact hk.base)
theorem put_c (l : List Pr) (hr : Rising l) (hl : l.length ≤ 1000) (key v : ByteArray) (w : World) (B g : Nat) (hB : B ≤ w.heap.size) (hT : IsT w B g l) :
    Calls Try.prog 14 #[.pointer (some ⟨g, 0, none⟩), .string key, .string v] w fun e w' => e = .returned (.tuple #[]) ∧ IsT w' B g (put l key v) ∧ w.grownBy w' (some g) := by
  refine (put_raw (l.map mk57) (by rw [len57]; exact hl) key v _ _ (seeks l hr hl key) w B g hB hT).mono ?_
  rintro e w' ⟨rfl, h1, h2⟩
  refine ⟨rfl, ?_, h2⟩
  unfold IsT
  have : (put l key v).map mk57 = (l.map mk57).take (cnt l key) ++ (⟨key, v⟩ : S57) :: (l.map mk57).drop (if has l key = true then cnt l key + 1 else cnt l key) := by
    unfold put rest
    split <;> simp [mk57]
  rw [this]
  exact h1
theorem get_c (l : List Pr) (hr : Rising l) (hl : l.length ≤ 1000) (key : ByteArray) (w : World) (B g : Nat) (hT : IsT w B g l) :
    Calls Try.prog 12 #[.pointer (some ⟨g, 0, none⟩), .string key] w fun e w' => e = .returned (.tuple #[.string (TabP.get l key).1, .bool (TabP.get l key).2]) ∧ Drawn0 w w' := by
  refine (get_raw (l.map mk57) key _ _ (seeks l hr hl key) w B g hT).mono ?_
  rintro e w' ⟨rfl, h⟩
  refine ⟨?_, h⟩
  rw [TabP.get_at, TabP.has_at]
  cases hx : l[cnt l key]? with
  | none => rfl
  | some x =>
    by_cases he : x.1 = key
    · simp only [he, decide_true, if_true]
      rw [rd57 l _ x hx]
      rfl
    · simp [he]
      rfl
theorem len_c (l : List Pr) (w : World) (B g : Nat) (hT : IsT w B g l) :
    Calls Try.prog 13 #[.pointer (some ⟨g, 0, none⟩)] w fun e w' => e = .returned (.int .i64 l.length) ∧ Drawn0 w w' := by
  have := len_raw (l.map mk57) w B g hT
  rwa [len57] at this
theorem key_c (l : List Pr) (i : Nat) (x : Pr) (hx : l[i]? = some x) (w : World) (B g : Nat) (hT : IsT w B g l) :
    Calls Try.prog 11 #[.pointer (some ⟨g, 0, none⟩), .int .i64 (i : Int)] w fun e w' => e = .returned (.tuple #[.string x.1, .bool true]) ∧ Drawn0 w w' := by
  have hi := (List.getElem?_eq_some_iff.1 hx).1
  have := key_in (l.map mk57) (i : Int) (by omega) (by rw [len57]; omega) w B g hT
  rw [rd57 l i x hx] at this
  exact this
theorem del_c (l : List Pr) (hr : Rising l) (hl : l.length ≤ 1000) (key : ByteArray) (w : World) (B g : Nat) (hB : B ≤ w.heap.size) (hT : IsT w B g l) :
    Calls Try.prog 15 #[.pointer (some ⟨g, 0, none⟩), .string key] w fun e w' => e = .returned (.bool (has l key)) ∧ IsT w' B g (del l key) ∧ w.grownBy w' (some g) := by
  have hs := seeks l hr hl key
  cases hb : has l key with
  | false =>
    rw [hb] at hs
    refine (delete_no (l.map mk57) key _ hs w B g hT).mono ?_
    rintro e w' ⟨rfl, ⟨n, rfl⟩⟩
    refine ⟨rfl, ?_, ⟨rfl, rfl, rfl, Nat.le_refl _, fun _ _ _ => rfl⟩⟩
    unfold del
    rw [if_neg (by rw [hb]; simp)]
    exact hT
  | true =>
    rw [hb] at hs
    refine (delete_yes (l.map mk57) (by rw [len57]; exact hl) key _ hs w B g hB hT).mono ?_
    rintro e w' ⟨rfl, h1, h2⟩
    refine ⟨rfl, ?_, h2⟩
    unfold del IsT
    rw [if_pos hb]
    simpa using h1
theorem new_t (w : World) (B : Nat) (hB : B ≤ w.heap.size) : Calls Try.prog 16 #[] w fun e w' => ∃ g, e = .returned (.pointer (some ⟨g, 0, none⟩)) ∧ IsT w' B g [] ∧ w.heap.size ≤ g ∧ Below w.heap.size w w' := new_c w B hB
theorem copy_c (l : List Pr) (hl : l.length ≤ 1000) (w : World) (B g : Nat) (hB : B ≤ w.heap.size) (hT : IsT w B g l) :
    Calls Try.prog 24 #[.pointer (some ⟨g, 0, none⟩)] w fun e w' => ∃ q, e = .returned (.pointer (some ⟨q, 0, none⟩)) ∧ IsT w' B q l ∧ w.heap.size ≤ q ∧ Below w.heap.size w w' :=
  copy_raw (l.map mk57) (by rw [len57]; exact hl) w B g hB hT
/-! ### heads -/
def ba : ByteArray := ⟨#[97]⟩
def bb : ByteArray := ⟨#[98]⟩
def b1 : ByteArray := ⟨#[49]⟩
def b2 : ByteArray := ⟨#[50]⟩
theorem hd1 : put [] bb b1 = [(bb, b1)] := rfl
theorem hd2 : put [(bb, b1)] ba b2 = [(ba, b2), (bb, b1)] := by decide +kernel
theorem hd3 : TabP.get [(ba, b2), (bb, b1)] bb = (b1, true) := by decide +kernel
theorem hr1 : Rising [(bb, b1)] := List.pairwise_singleton _ _
theorem hr2 : Rising [(ba, b2), (bb, b1)] := by rw [← hd2]; exact put_rising hr1 _ _
theorem heads_c (w : World) : Calls Try.prog 9 #[] w fun e w' => e = .returned (.bool true) ∧ Below w.heap.size w w' := by
  go_enter Try.func9, Try.ntmps9
  go_wp2_with fail
  refine (new_t w w.heap.size (Nat.le_refl _)).mono ?_
  rintro e w1 ⟨g, rfl, hT1, -, hb1⟩
  have HT1 := Lib.hid hT1
  have HB1 := Lib.hid hb1
  clear hT1 hb1
  go_wp2_with fail
  refine (put_c [] List.Pairwise.nil (by simp) bb b1 w1 w.heap.size g HB1.out.size HT1.out).mono ?_
  rintro e w2 ⟨rfl, hT2, hg2⟩
  have HB2 := Lib.hid (below_put HB1.out HT1.out hg2)
  rw [hd1] at hT2
  have HT2 := Lib.hid hT2
  clear hT2 hg2
  go_wp2_with fail
  refine (put_c [(bb, b1)] hr1 (by simp) ba b2 w2 w.heap.size g HB2.out.size HT2.out).mono ?_
  rintro e w3 ⟨rfl, hT3, hg3⟩
  have HB3 := Lib.hid (below_put HB2.out HT2.out hg3)
  rw [hd2] at hT3
  have HT3 := Lib.hid hT3
  clear hT3 hg3
  go_wp2_with fail
  refine (key_c [(ba, b2), (bb, b1)] 0 (ba, b2) rfl w3 w.heap.size g HT3.out).mono ?_
  rintro e w' ⟨rfl, ⟨m4, rfl⟩⟩
  go_wp2_with fail
  refine (get_c [(ba, b2), (bb, b1)] hr2 (by simp) bb (w3.drewN m4) w.heap.size g (HT3.out.drewN m4)).mono ?_
  rw [hd3]
  rintro e w' ⟨rfl, ⟨m5, rfl⟩⟩
  unfold ba b1
  go_wp2_with fail
  refine (len_c [(ba, b2), (bb, b1)] (w3.drewN (m4 + m5)) w.heap.size g (HT3.out.drewN _)).mono ?_
  rintro e w' ⟨rfl, ⟨m6, rfl⟩⟩
  go_wp2_with fail
  go_ret
  exact ⟨rfl, pw_below_drewN HB3.out _⟩
/-! ### made -/
theorem grown_drew {w w' : World} {r : Option Nat} (h : w.drew.grownBy w' r) : w.grownBy w' r := ⟨h.os, h.tape, h.output, h.size, h.block⟩
theorem below_drew' {w w' : World} {B : Nat} (h : Below B w.drew w') : Below B w w' := ⟨h.os, h.tape, h.output, h.size, h.block⟩
theorem refPut_c (l : List Pr) (hl : l.length ≤ 1000) (key v : ByteArray) (w W : World) (B : Nat) (vm : Value) (hB : Below B w W) (hBs : B = w.heap.size) (hR : Kd.R k31 31 W B (fun _ => True) vm (l.map mk31)) :
    Calls Try.prog 18 #[vm, .string key, .string v] W fun e w' => ∃ v' : Value, e = .returned v' ∧ Kd.R k31 31 w' B (fun _ => True) v' ((put l key v).map mk31) ∧ Below W.heap.size W w' := by
  subst hBs
  obtain ⟨A, c, rfl, hc, hC⟩ := Kd.R_reads hR
  obtain ⟨k, hk⟩ := Ev.rounds (refPut_ev l (by omega) key v)
  refine (horariumref06_Put.calls k A c (l.map mk31) key v _ W hC hc hk).mono ?_
  rintro e w' ⟨v', rfl, h1, h2⟩
  exact ⟨v', rfl, Kd.R_lower h1 hB.size, h2⟩
theorem refDelete_c (l : List Pr) (hr : Rising l) (hl : l.length ≤ 1000) (key : ByteArray) (w W : World) (B : Nat) (vm : Value) (hB : Below B w W) (hBs : B = w.heap.size) (hR : Kd.R k31 31 W B (fun _ => True) vm (l.map mk31)) :
    Calls Try.prog 19 #[vm, .string key] W fun e w' => ∃ v' : Value, e = .returned v' ∧ Kd.R k31 31 w' B (fun _ => True) v' ((del l key).map mk31) ∧ Below W.heap.size W w' := by
  subst hBs
  obtain ⟨A, c, rfl, hc, hC⟩ := Kd.R_reads hR
  obtain ⟨k, hk⟩ := Ev.rounds (refDelete_ev l (by omega) key)
  rw [← del_filter hr] at hk
  refine (horariumref06_Delete.calls k A c (l.map mk31) key _ W hC hc hk).mono ?_
  rintro e w' ⟨v', rfl, h1, h2⟩
  exact ⟨v', rfl, Kd.R_lower h1 hB.size, h2⟩
/-- The cells of an operation that came in, in every world behind. -/
theorem op_cells {ops : List S43} {A : Option Addr} {w : World} (hC : Kd.C k43 w A ops.length ops) (i : Nat) (hi : i < ops.length) : ∃ (ad : Addr) (x : S43), A = some ad ∧ ops[i]? = some x ∧ ∀ W : World, Below w.heap.size w W →
    W.cell? (ad.add (i * 3)) = some (.int .i64 x.f0) ∧ W.cell? ⟨(ad.add (i * 3)).block, (ad.add (i * 3)).off + 1, none⟩ = some (.string x.f1) ∧ W.cell? ⟨(ad.add (i * 3)).block, (ad.add (i * 3)).off + 2, none⟩ = some (.string x.f2) := by
  obtain ⟨ad, hA, _⟩ := at_T43 hC (i : Int) (by omega) (by omega)
  have hx : ops[i]? = some ops[i] := List.getElem?_eq_getElem hi
  refine ⟨ad, ops[i], hA, hx, fun W hW => ?_⟩
  obtain ⟨ad', hA', h1, h2, h3⟩ := at_T43 (Kd.C_below hC hW) (i : Int) (by omega) (by omega)
  rw [hA] at hA'
  injection hA' with hA'
  subst hA'
  have hr : rd_T43 ops (i : Int) = ops[i] := by
    unfold rd_T43
    simp [List.getD_eq_getElem?_getD, hx]
  rw [hr] at h1 h2 h3
  simp only [Int.toNat_natCast] at h1 h2 h3
  exact ⟨h1, h2, h3⟩
theorem made_c (ops : List S43) (hl : ops.length ≤ 500) (A : Option Addr) (c : Nat) (hc : ops.length ≤ c) (w : World) (hC : Kd.C k43 w A ops.length ops) :
    Calls Try.prog 10 #[.slice A ops.length c] w fun e w' => ∃ (g : Nat) (vm : Value) (l : List Pr), e = .returned (.tuple #[.pointer (some ⟨g, 0, none⟩), vm]) ∧ Rising l ∧ l.length ≤ ops.length ∧ IsT w' w.heap.size g l ∧ Kd.R k31 31 w' w.heap.size (fun _ => True) vm (l.map mk31) ∧ Below w.heap.size w w' := by
  have HC := Lib.hid hC
  clear hC
  go_enter Try.func10, Try.ntmps10
  go_wp2_with fail
  refine (new_t w w.heap.size (Nat.le_refl _)).mono ?_
  rintro e w1 ⟨g, rfl, hT1, -, hb1⟩
  have HT1 := Lib.hid hT1
  have HB1 := Lib.hid hb1
  clear hT1 hb1
  go_wp2_with fail
  go_loopw [5, 6] (fun vm vi wr => ∃ (i : Nat) (l : List Pr), i ≤ ops.length ∧ vi = .int .i64 i ∧ l.length ≤ i ∧ Hid (Rising l) ∧ Hid (IsT wr w.heap.size g l) ∧ Hid (Kd.R k31 31 wr w.heap.size (fun _ => True) vm (l.map mk31)) ∧ Hid (Below w.heap.size w wr)) (fun _ vi _ => ops.length - (intOf vi).toNat)
  case atStart => exact ⟨0, [], Nat.zero_le _, rfl, Nat.le_refl _, List.Pairwise.nil, HT1.out, Kd.R_nil _ _ _ _ _, HB1.out⟩
  case round =>
    obtain ⟨i, l, hi, rfl, hli, Hr, HT, HM, HB⟩ := hrel
    by_cases hlt : i < ops.length
    · obtain ⟨ad, x, rfl, hx, hcells⟩ := op_cells HC.out i hlt
      have HX := Lib.hid hcells
      obtain ⟨hk1, hk2, hk3⟩ := hcells wr HB.out
      clear hx hcells
      by_cases h1 : x.f0 = 1
      · have h1b : (x.f0 == 1) = true := beq_iff_eq.2 h1
        clear h1
        go_wp2
        go_still_tail 11, (by kernel_rfl)
        go_wp2_with fail
        refine (put_c l Hr.out (by omega) x.f1 x.f2 _ w.heap.size g ?sz ?ht).mono ?_
        case sz => exact HB.out.size
        case ht => exact HT.out
        rintro e w2 ⟨rfl, hT2, hg2⟩
        have hg2 := grown_drew hg2
        have HT2 := Lib.hid hT2
        have HM2 := Lib.hid (R31_put HM.out HT.out hg2)
        have HB2 := Lib.hid (below_put HB.out HT.out hg2)
        obtain ⟨hl1, hl2, hl3⟩ := HX.out w2 HB2.out
        clear hT2 hg2 hk1 hk2 hk3
        go_wp2
        go_still_tail 11, (by kernel_rfl)
        go_wp2_with fail
        refine (refPut_c l (by omega) x.f1 x.f2 w _ w.heap.size _ ?sz ?ht ?hm).mono ?_
        case sz => exact below_drew HB2.out
        case ht => rfl
        case hm => exact Kd.R_drew HM2.out
        rintro e w3 ⟨vm3, rfl, hM3, hb3⟩
        have hb3 : Below w2.heap.size w2 w3 := below_drew' hb3
        have HM3 := Lib.hid hM3
        have HT3 := Lib.hid (HT2.out.below hb3)
        have HB3 := Lib.hid (below_step HB2.out hb3)
        clear hM3 hb3 hl1 hl2 hl3
        go_wp2
        go_roundw
        case rel =>
          refine ⟨i + 1, put l x.f1 x.f2, by omega, by go_num, ?_, put_rising Hr.out _ _, HT3.out, HM3.out, HB3.out⟩
          rw [put_length]
          split <;> omega
        case measure => simp [intOf]; omega
      · have h1b : (x.f0 == 1) = false := beq_eq_false_iff_ne.2 h1
        clear h1
        by_cases h2 : x.f0 = 2
        · have h2b : (x.f0 == 2) = true := beq_iff_eq.2 h2
          clear h2
          go_wp2_with fail
          refine (del_c l Hr.out (by omega) x.f1 _ w.heap.size g ?sz ?ht).mono ?_
          case sz => exact HB.out.size
          case ht => exact HT.out
          rintro e w2 ⟨rfl, hT2, hg2⟩
          have HT2 := Lib.hid hT2
          have HM2 := Lib.hid (R31_put HM.out HT.out hg2)
          have HB2 := Lib.hid (below_put HB.out HT.out hg2)
          obtain ⟨hl1, hl2, hl3⟩ := HX.out w2 HB2.out
          clear hT2 hg2 hk1 hk2 hk3
          go_wp2_with fail
          refine (refDelete_c l Hr.out (by omega) x.f1 w _ w.heap.size _ ?sz ?ht ?hm).mono ?_
          case sz => exact HB2.out
          case ht => rfl
          case hm => exact HM2.out
          rintro e w3 ⟨vm3, rfl, hM3, hb3⟩
          have HM3 := Lib.hid hM3
          have HT3 := Lib.hid (HT2.out.below hb3)
          have HB3 := Lib.hid (below_step HB2.out hb3)
          clear hM3 hb3 hl1 hl2 hl3
          go_wp2
          go_roundw
          case rel =>
            refine ⟨i + 1, del l x.f1, by omega, by go_num, ?_, del_rising Hr.out _, HT3.out, HM3.out, HB3.out⟩
            have := del_length l x.f1
            omega
          case measure => simp [intOf]; omega
        · have h2b : (x.f0 == 2) = false := beq_eq_false_iff_ne.2 h2
          clear h2
          go_wp2
          go_roundw
          case rel => exact ⟨i + 1, l, by omega, by go_num, by omega, Hr.out, HT.out, HM.out, HB.out⟩
          case measure => simp [intOf]; omega
    · go_wp2
      go_ret2
      exact ⟨_, _, l, rfl, Hr.out, by omega, HT.out, HM.out, HB.out⟩
end Go.Proofs.Ytcjnmipmdnlkmaa.TabD
