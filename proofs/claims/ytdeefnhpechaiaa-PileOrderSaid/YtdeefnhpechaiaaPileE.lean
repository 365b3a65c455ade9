/- Contracts of a pile's methods: down. -/
import Derived.Test.YtdeefnhpechaiaaPileD
import Derived.Deep.QuietTactic
import Derived.BigQuiet
namespace Go.Proofs.Ytdeefnhpechaiaa.PileE
set_option linter.unusedVariables false
open Go.RowKit Go.Maps Go.Proofs.YtdeefnhpechaiaaW.PrintWords Go.Proofs.YtdeefnhpechaiaaW.PrintLast Go.Proofs.YtdeefnhpechaiaaW.PrintMore Go.Proofs.Ytdeefnhpechaiaa.PileP Go.Proofs.Ytdeefnhpechaiaa.PileC Go.Proofs.Ytdeefnhpechaiaa.PileD Go.Proofs.Ytdeefnhpechaiaa.Q
def pick (l : List It) (m k : Nat) : Nat := if k < l.length ∧ above (at_ l k) (at_ l m) = true then k else m
def least (l : List It) (j : Nat) : Nat := pick l (pick l j (2 * j + 1)) (2 * j + 2)
theorem pick_lt {l : List It} {m k : Nat} (h : m < l.length) : pick l m k < l.length := by
  unfold pick
  split
  · rename_i h1; exact h1.1
  · exact h
theorem least_spec (l : List It) (j : Nat) (hj : j < l.length) :
    (least l j = j ∧ (2 * j + 1 < l.length → above (at_ l (2 * j + 1)) (at_ l j) = false) ∧ (2 * j + 2 < l.length → above (at_ l (2 * j + 2)) (at_ l j) = false)) ∨
    (j < least l j ∧ least l j < l.length ∧ (least l j - 1) / 2 = j ∧ above (at_ l (least l j)) (at_ l j) = true ∧ ∀ k, 0 < k → k < l.length → (k - 1) / 2 = j → above (at_ l k) (at_ l (least l j)) = false) := by
  have two : ∀ k, 0 < k → (k - 1) / 2 = j → k = 2 * j + 1 ∨ k = 2 * j + 2 := fun k h0 e => by omega
  unfold least
  by_cases h1 : 2 * j + 1 < l.length ∧ above (at_ l (2 * j + 1)) (at_ l j) = true
  · have e1 : pick l j (2 * j + 1) = 2 * j + 1 := if_pos h1
    rw [e1]
    by_cases h2 : 2 * j + 2 < l.length ∧ above (at_ l (2 * j + 2)) (at_ l (2 * j + 1)) = true
    · have e2 : pick l (2 * j + 1) (2 * j + 2) = 2 * j + 2 := if_pos h2
      rw [e2]
      refine .inr ⟨by omega, h2.1, by omega, ?_, fun k h0 hk e => ?_⟩
      · have a := above_iff.1 h2.2
        have b := above_iff.1 h1.2
        rw [above_iff]
        omega
      · rcases two k h0 e with rfl | rfl
        · exact le_of h2.2
        · exact le_refl _
    · have e2 : pick l (2 * j + 1) (2 * j + 2) = 2 * j + 1 := if_neg h2
      rw [e2]
      refine .inr ⟨by omega, h1.1, by omega, h1.2, fun k h0 hk e => ?_⟩
      rcases two k h0 e with rfl | rfl
      · exact le_refl _
      · rw [Bool.eq_false_iff]
        exact fun h => h2 ⟨hk, h⟩
  · have e1 : pick l j (2 * j + 1) = j := if_neg h1
    rw [e1]
    have n1 : 2 * j + 1 < l.length → above (at_ l (2 * j + 1)) (at_ l j) = false := fun h => by
      rw [Bool.eq_false_iff]
      exact fun h' => h1 ⟨h, h'⟩
    by_cases h2 : 2 * j + 2 < l.length ∧ above (at_ l (2 * j + 2)) (at_ l j) = true
    · have e2 : pick l j (2 * j + 2) = 2 * j + 2 := if_pos h2
      rw [e2]
      refine .inr ⟨by omega, h2.1, by omega, h2.2, fun k h0 hk e => ?_⟩
      rcases two k h0 e with rfl | rfl
      · exact le_trans (le_of h2.2) (n1 hk)
      · exact le_refl _
    · have e2 : pick l j (2 * j + 2) = j := if_neg h2
      rw [e2]
      refine .inl ⟨rfl, n1, fun h => ?_⟩
      rw [Bool.eq_false_iff]
      exact fun h' => h2 ⟨h, h'⟩
def lt2 (l : List It) (j : Nat) : Nat → Nat
  | 0 => j
  | 1 => pick l j (2 * j + 1)
  | _ => least l j
theorem lt2_lt {l : List It} {j : Nat} (h : j < l.length) (t : Nat) : lt2 l j t < l.length := by
  match t with
  | 0 => exact h
  | 1 => exact pick_lt h
  | _ + 2 => exact pick_lt (pick_lt h)
theorem lt2_succ (l : List It) (j t : Nat) (ht : t < 2) : lt2 l j (t + 1) = pick l (lt2 l j t) (2 * j + 1 + t) := by
  match t, ht with
  | 0, _ => rfl
  | 1, _ => rfl
set_option maxHeartbeats 4000000 in
set_option maxRecDepth 100000 in
theorem down_c (W : World) (B g : Nat) (l : List It) (look : Int → Option Nat) (K : Nat) (F : Nat → Prop) (hP : IsP W B g l look K F) (hk : PileP.Keyed look l) (hl : l.length ≤ 1000) (hK : Hid (K + 2000 < maxLen)) (i : Nat) (hi : i < l.length) (hA : DownInv l i) :
    Calls Try.prog 25 #[.pointer (some ⟨g, 0, none⟩), .int .i64 (i : Int)] W fun e W' => ∃ (l' : List It) (look' : Int → Option Nat) (K' : Nat), e = .returned (.tuple #[]) ∧ Hid (IsP W' B g l' look' K' F) ∧ Hid (PileP.Keyed look' l') ∧ Hid (l'.Perm l) ∧ l'.length = l.length ∧ K' ≤ K + 2 * l.length ∧ Hid (Heap l') ∧ Hid (Turn W W' F) := by
  have HP := Lib.hid hP
  have Hk := Lib.hid hk
  have HA := Lib.hid hA
  have HT0 : Hid (Turn W W F) := Turn.of_below (Below.refl _ _) F
  clear hP hk hA
  go_enter Try.func25, Try.ntmps25
  go_wp2_with fail
  go_loopw [1] (fun vi wr => ∃ (j : Nat) (l' : List It) (look' : Int → Option Nat) (K' : Nat), vi = .int .i64 (j : Int) ∧ j < l.length ∧ l'.length = l.length ∧ K' + 2 * (l.length - j) ≤ K + 2 * (l.length - i) ∧ Hid (IsP wr B g l' look' K' F) ∧ Hid (PileP.Keyed look' l') ∧ Hid (l'.Perm l) ∧ Hid (DownInv l' j) ∧ Hid (Turn W wr F)) (fun vi _ => l.length - (intOf vi).toNat)
  case atStart => exact ⟨i, l, look, K, rfl, hi, rfl, Nat.le_refl _, HP.out, Hk.out, List.Perm.refl _, HA.out, HT0.out⟩
  case round =>
    obtain ⟨j, l', look', K', rfl, hj, hll, hKj, HPr, Hkr, Hpr, HAr, HTr⟩ := hrel
    have hw1 : IntKind.i64.wrap (2 * (j : Int)) = 2 * (j : Int) := wrap_small _ (by omega) (by omega)
    have hw2 : IntKind.i64.wrap (2 * (j : Int) + 1) = ((2 * j + 1 : Nat) : Int) := by rw [wrap_small _ (by omega) (by omega)]; omega
    have hw3 : IntKind.i64.wrap (2 * (j : Int) + 2) = ((2 * j + 2 : Nat) : Int) := by rw [wrap_small _ (by omega) (by omega)]; omega
    obtain ⟨k1, hk1⟩ : ∃ k1, k1 = 2 * j + 1 := ⟨_, rfl⟩
    obtain ⟨k2, hk2⟩ : ∃ k2, k2 = 2 * j + 2 := ⟨_, rfl⟩
    rw [← hk1] at hw2
    rw [← hk2] at hw3
    have Hk1 := Lib.hid hk1
    have Hk2 := Lib.hid hk2
    have Hll := Lib.hid hll
    clear hk1 hk2 hll
    go_wp2
    have hbn := blk_new wr (.cells #[.int .i64 (k1 : Int), .int .i64 (k2 : Int)] 3)
    have hP1 := upto HPr.out ((Below.refl wr.heap.size wr).alloc (Nat.le_refl _) (.cells #[.int .i64 (k1 : Int), .int .i64 (k2 : Int)] 3))
    obtain ⟨hP1, hT1⟩ := hP1
    have HP1 := Lib.hid hP1
    have HT1 := Lib.hid (HTr.out.trans hT1 (fun _ h => .inl h))
    have Hbn := Lib.hid hbn
    clear hP1 hT1 hbn hw1 hw2 hw3
    generalize wr.alloc (.cells #[.int .i64 (k1 : Int), .int .i64 (k2 : Int)] 3) = w1 at *
    generalize wr.heap.size = nb at *
    have hnbl := blk_lt Hbn.out
    go_loopw [4, 18] (fun vl vt wi => ∃ (t m : Nat), t ≤ 2 ∧ vt = .int .i64 (t : Int) ∧ vl = .int .i64 (m : Int) ∧ Hid (m = lt2 l' j t) ∧ m < l'.length ∧ Hid (Below w1.heap.size w1 wi)) (fun _ vt _ => 2 - (intOf vt).toNat)
    case atStart => exact ⟨0, j, by omega, rfl, rfl, rfl, by rw [Hll.out]; exact hj, Below.refl _ _⟩
    case round =>
      obtain ⟨t, m, ht, rfl, rfl, Hm, hml, HBi⟩ := hrel
      by_cases ht2 : t < 2
      · obtain ⟨kk, hkk⟩ : ∃ kk, kk = 2 * j + 1 + t := ⟨_, rfl⟩
        have hck : wr.cell? ⟨nb, t, none⟩ = some (.int .i64 (kk : Int)) := by
          have hb := blk_below Hbn.out HBi.out
          have h := blk_cell hb t
          rcases (by omega : t = 0 ∨ t = 1) with rfl | rfl
          · rw [hkk, ← Hk1.out]; exact h
          · rw [hkk, show 2 * j + 1 + 1 = k2 from by have := Hk2.out; omega]; exact h
        have htl : (t : Int) < 2 := by omega
        have hP2 := HP1.out.below HBi.out
        obtain ⟨rb, c, b, hg, hlc, hrl, hBr, hcs, hfs, -⟩ := hP2.cells m hml
        obtain ⟨hd1, hd2⟩ := hcs m hml
        have hcell : wr.cell? ⟨g, 0, none⟩ = some (.slice (some ⟨rb, 0, none⟩) l'.length c) := (blk_cell hg 0).trans rfl
        have hmi : (m : Int) < (l'.length : Int) := by omega
        have Hkk := Lib.hid hkk
        by_cases hkl : kk < l'.length
        · obtain ⟨hc1, hc2⟩ := hcs kk hkl
          have hki : (kk : Int) < (l'.length : Int) := by omega
          have hkid : decide ((kk : Int) < (l'.length : Int)) = true := decide_eq_true hki
          have Hab := Lib.hid (above_c (at_ l' kk) (at_ l' m) wr.drew)
          clear hg hcs hfs hkk hP2
          generalize hx : at_ l' kk = x at *
          generalize hy : at_ l' m = y at *
          have Hx := Lib.hid hx
          have Hy := Lib.hid hy
          clear hx hy
          go_wp2
          go_still_tail 22, (by kernel_rfl)
          go_wp2_with fail
          refine (Hab.out).mono ?_
          cases hab : above x y
          · rintro e w2 ⟨rfl, hb2⟩
            have hb2 : Below wr.heap.size wr w2 := below_drew' hb2
            have HB2 := Lib.hid (below_step HBi.out hb2)
            clear hb2
            go_wp2
            go_roundw
            case rel =>
              refine ⟨t + 1, m, by omega, by go_num, rfl, ?_, hml, HB2.out⟩
              show m = lt2 l' j (t + 1)
              rw [lt2_succ _ _ _ ht2, ← Hm.out, ← Hkk.out]
              unfold pick
              rw [if_neg]
              rw [Hx.out, Hy.out, hab]
              simp
            case measure => simp [intOf]; omega
          · rintro e w2 ⟨rfl, hb2⟩
            have hb2 : Below wr.heap.size wr w2 := below_drew' hb2
            have HB2 := Lib.hid (below_step HBi.out hb2)
            clear hb2
            go_wp2
            go_roundw
            case rel =>
              refine ⟨t + 1, kk, by omega, by go_num, rfl, ?_, hkl, HB2.out⟩
              show kk = lt2 l' j (t + 1)
              rw [lt2_succ _ _ _ ht2, ← Hm.out, ← Hkk.out]
              unfold pick
              rw [if_pos]
              rw [Hx.out, Hy.out]
              exact ⟨hkl, hab⟩
            case measure => simp [intOf]; omega
        · have hkid : decide ((kk : Int) < (l'.length : Int)) = false := by simp; omega
          have hkn : ¬ ((kk : Int) < (l'.length : Int)) := by omega
          clear hg hcs hfs hkk hP2 hd1 hd2 hkn
          go_wp2
          clear hck
          go_quiet (fail)
          go_wp2
          go_roundw
          case rel =>
            refine ⟨t + 1, m, by omega, by go_num, rfl, ?_, hml, pw_below_drewN HBi.out _⟩
            show m = lt2 l' j (t + 1)
            rw [lt2_succ _ _ _ ht2, ← Hm.out, ← Hkk.out]
            unfold pick
            rw [if_neg]
            rintro ⟨h1, -⟩
            exact hkl h1
          case measure => simp [intOf]; omega
      · obtain rfl : t = 2 := by omega
        have hml2 : m = least l' j := Hm.out
        have hP2 := HP1.out.below HBi.out
        have HTi := Lib.hid (HT1.out.trans (Turn.of_below HBi.out F) (fun _ h => .inl h))
        have hjn : j < l'.length := by rw [Hll.out]; exact hj
        have hsp := least_spec l' j hjn
        rw [← hml2] at hsp
        clear hml2
        rcases hsp with ⟨rfl, hs1, hs2⟩ | ⟨hg1, hg2, hg3, hg4, hg5⟩
        · have HH := Lib.hid (HAr.out.stop hs1 hs2)
          have HP2 := Lib.hid hP2
          clear hs1 hs2 hP2
          go_wp2
          refine bodyPost_ret (results_none rfl _ _ _) rfl ?_
          exact ⟨l', look', K', rfl, HP2.out, Hkr.out, Hpr.out, Hll.out, by omega, HH.out, HTi.out⟩
        · have hjm : j ≠ m := by omega
          have hmj : ((m : Int) == (j : Int)) = false := by simp; omega
          have hg3 := Lib.hid hg3
          have hg4 := Lib.hid hg4
          have hg5 := Lib.hid hg5
          have hwx : (Lit.int .i64 (at_ l' j).1).wf = true := wf_at hP2 j hjn
          have hwy : (Lit.int .i64 (at_ l' m).1).wf = true := wf_at hP2 m hml
          have hll2 : l'.length ≤ 1000 := by rw [Hll.out]; exact hl
          have HKa : Hid (K' < maxLen) := by have h := hK.out; show K' < maxLen; omega
          have HKb : Hid (K' + 1 < maxLen) := by have h := hK.out; show K' + 1 < maxLen; omega
          obtain ⟨rb, c, b, hg, hlc, hrl, hBr, hcs, hfs, -⟩ := hP2.cells m hml
          obtain ⟨hd1, hd2⟩ := hcs m hml
          obtain ⟨hc1, hc2⟩ := hcs j hjn
          have hcell : wr.cell? ⟨g, 0, none⟩ = some (.slice (some ⟨rb, 0, none⟩) l'.length c) := (blk_cell hg 0).trans rfl
          have hgl : g < wr.heap.size := World.block_lt_of_cell? wr _ hcell
          have hmi : (m : Int) < (l'.length : Int) := by omega
          have hji : (j : Int) < (l'.length : Int) := by omega
          have HP2 := Lib.hid hP2
          clear hg hcs hfs hP2
          generalize hx : at_ l' j = x at *
          generalize hy : at_ l' m = y at *
          have Hx := Lib.hid hx
          have Hy := Lib.hid hy
          have hg4' : Hid (above (at_ l' m) (at_ l' j) = true) := by rw [Hx.out, Hy.out]; exact hg4.out
          have hg5' : Hid (∀ k, 0 < k → k < l'.length → (k - 1) / 2 = j → above (at_ l' k) (at_ l' m) = false) := by rw [Hy.out]; exact hg5.out
          clear hx hy
          have HSb : Hid (∀ X : World, Below wr.heap.size wr X → X.cell? ⟨g, 0, none⟩ = some (.slice (some ⟨rb, 0, none⟩) l'.length c) ∧ X.cell? ⟨rb, j * 2, none⟩ = some (.int .i64 x.1) ∧ X.cell? ⟨rb, j * 2 + 1, none⟩ = some (.int .i64 x.2) ∧ X.cell? ⟨rb, m * 2, none⟩ = some (.int .i64 y.1) ∧ X.cell? ⟨rb, m * 2 + 1, none⟩ = some (.int .i64 y.2)) := by
            intro X hX
            exact ⟨(hX.cell (p := ⟨g, 0, none⟩) hgl).trans hcell, (hX.cell (p := ⟨rb, j * 2, none⟩) hrl).trans hc1, (hX.cell (p := ⟨rb, j * 2 + 1, none⟩) hrl).trans hc2, (hX.cell (p := ⟨rb, m * 2, none⟩) hrl).trans hd1, (hX.cell (p := ⟨rb, m * 2 + 1, none⟩) hrl).trans hd2⟩
          clear hcell hc1 hc2 hd1 hd2
          go_wp2
          generalize wr = w2 at *
          go_region_held3 (fun X => X.cell? ⟨g, 0, none⟩ = some (.slice (some ⟨rb, 0, none⟩) l'.length c) ∧ X.cell? ⟨rb, j * 2, none⟩ = some (.int .i64 x.1) ∧ X.cell? ⟨rb, j * 2 + 1, none⟩ = some (.int .i64 x.2) ∧ X.cell? ⟨rb, m * 2, none⟩ = some (.int .i64 y.1) ∧ X.cell? ⟨rb, m * 2 + 1, none⟩ = some (.int .i64 y.2))
            ((refine HSb.out _ ?_; repeat (first | exact Below.refl _ _ | apply Below.drew | refine Below.alloc ?_ (by simp) _ | refine Below.setCell (p := ⟨_, _, none⟩) ?_ (by simp) _))) (fail)
          · obtain ⟨hb3, hz1, hz2⟩ := two_new w2 #[.int .i64 x.1, .int .i64 x.2] #[.int .i64 y.1, .int .i64 y.2] 51 51
            generalize ((w2.alloc (.cells #[.int .i64 x.1, .int .i64 x.2] 51)).alloc (.cells #[.int .i64 y.1, .int .i64 y.2] 51)).drew = w3 at *
            have hxb : w3.heap[w2.heap.size]? = some (.cells #[.int .i64 x.1, .int .i64 x.2] 51 (0, 0)) := hz1
            have hyb : w3.heap[w2.heap.size + 1]? = some (.cells #[.int .i64 y.1, .int .i64 y.2] 51 (0, 0)) := hz2
            have hx1 : w3.cell? ⟨w2.heap.size, 0, none⟩ = some (.int .i64 x.1) := (blk_cell hxb 0).trans rfl
            have hx2 : w3.cell? ⟨w2.heap.size, 1, none⟩ = some (.int .i64 x.2) := (blk_cell hxb 1).trans rfl
            obtain ⟨hP3, hT3⟩ := upto HP2.out hb3
            have HP3 := Lib.hid hP3
            have HT3 := Lib.hid hT3
            have Hyb := Lib.hid hyb
            clear hb3 hz1 hz2 hP3 hT3 hxb hyb HSb
            go_wp2_with fail
            refine (set_c w3 B g l' look' K' F HP3.out hll2 HKa m hml x.1 x.2 hwx).mono ?_
            rintro e w4 ⟨rfl, hP4, hT4⟩
            have hyb4 := keep_new HP2.out (by omega) Hyb.out hT4
            have hy1 : w4.cell? ⟨w2.heap.size + 1, 0, none⟩ = some (.int .i64 y.1) := (blk_cell hyb4 0).trans rfl
            have hy2 : w4.cell? ⟨w2.heap.size + 1, 1, none⟩ = some (.int .i64 y.2) := (blk_cell hyb4 1).trans rfl
            have HP4 := Lib.hid hP4
            have HT4 := Lib.hid hT4
            clear hyb4 hP4 hT4 hx1 hx2
            go_wp2_with fail
            refine (set_c w4 B g _ _ (K' + 1) F HP4.out (by rw [List.length_set]; exact hll2) HKb j (by rw [List.length_set]; exact hjn) y.1 y.2 hwy).mono ?_
            rintro e w5 ⟨rfl, hP5, hT5⟩
            have HP5 := Lib.hid hP5
            have HT5 := Lib.hid hT5
            clear hP5 hT5 hy1 hy2
            go_wp2
            go_roundw
            case rel =>
              have hs := swap_sets l' j m hjm
              rw [Hx.out, Hy.out] at hs
              have hP6 := HP5.out
              rw [show (l'.set m (x.1, x.2)).set j (y.1, y.2) = swap l' j m from hs] at hP6
              have hk6 := Hkr.out.swap hjn hml hjm
              rw [Hx.out, Hy.out] at hk6
              have hu := HAr.out.go hml hg3.out (by omega) hg4'.out hg5'.out
              refine ⟨m, swap l' j m, _, _, by go_num, by have := Hll.out; omega, by rw [swap_length]; exact Hll.out, ?_, hP6, hk6, (swap_perm l' j m hjn hml).trans Hpr.out, hu, ?_⟩
              · have h1 := Hll.out
                omega
              · exact (((HTi.out.trans HT3.out (fun _ h => .inl h)).trans HT4.out (fun _ h => .inl h)).trans HT5.out (fun _ h => .inl h))
            case measure =>
              have h1 := Hll.out
              simp [intOf]
              omega
          · obtain ⟨hb3, hz1, hz2⟩ := two_new w2 #[.int .i64 y.1, .int .i64 y.2] #[.int .i64 x.1, .int .i64 x.2] 51 51
            generalize ((w2.alloc (.cells #[.int .i64 y.1, .int .i64 y.2] 51)).alloc (.cells #[.int .i64 x.1, .int .i64 x.2] 51)).drew = w3 at *
            have hxb : w3.heap[w2.heap.size + 1]? = some (.cells #[.int .i64 x.1, .int .i64 x.2] 51 (0, 0)) := hz2
            have hyb : w3.heap[w2.heap.size]? = some (.cells #[.int .i64 y.1, .int .i64 y.2] 51 (0, 0)) := hz1
            have hx1 : w3.cell? ⟨w2.heap.size + 1, 0, none⟩ = some (.int .i64 x.1) := (blk_cell hxb 0).trans rfl
            have hx2 : w3.cell? ⟨w2.heap.size + 1, 1, none⟩ = some (.int .i64 x.2) := (blk_cell hxb 1).trans rfl
            obtain ⟨hP3, hT3⟩ := upto HP2.out hb3
            have HP3 := Lib.hid hP3
            have HT3 := Lib.hid hT3
            have Hyb := Lib.hid hyb
            clear hb3 hz1 hz2 hP3 hT3 hxb hyb HSb
            go_wp2_with fail
            refine (set_c w3 B g l' look' K' F HP3.out hll2 HKa m hml x.1 x.2 hwx).mono ?_
            rintro e w4 ⟨rfl, hP4, hT4⟩
            have hyb4 := keep_new HP2.out (by omega) Hyb.out hT4
            have hy1 : w4.cell? ⟨w2.heap.size, 0, none⟩ = some (.int .i64 y.1) := (blk_cell hyb4 0).trans rfl
            have hy2 : w4.cell? ⟨w2.heap.size, 1, none⟩ = some (.int .i64 y.2) := (blk_cell hyb4 1).trans rfl
            have HP4 := Lib.hid hP4
            have HT4 := Lib.hid hT4
            clear hyb4 hP4 hT4 hx1 hx2
            go_wp2_with fail
            refine (set_c w4 B g _ _ (K' + 1) F HP4.out (by rw [List.length_set]; exact hll2) HKb j (by rw [List.length_set]; exact hjn) y.1 y.2 hwy).mono ?_
            rintro e w5 ⟨rfl, hP5, hT5⟩
            have HP5 := Lib.hid hP5
            have HT5 := Lib.hid hT5
            clear hP5 hT5 hy1 hy2
            go_wp2
            go_roundw
            case rel =>
              have hs := swap_sets l' j m hjm
              rw [Hx.out, Hy.out] at hs
              have hP6 := HP5.out
              rw [show (l'.set m (x.1, x.2)).set j (y.1, y.2) = swap l' j m from hs] at hP6
              have hk6 := Hkr.out.swap hjn hml hjm
              rw [Hx.out, Hy.out] at hk6
              have hu := HAr.out.go hml hg3.out (by omega) hg4'.out hg5'.out
              refine ⟨m, swap l' j m, _, _, by go_num, by have := Hll.out; omega, by rw [swap_length]; exact Hll.out, ?_, hP6, hk6, (swap_perm l' j m hjn hml).trans Hpr.out, hu, ?_⟩
              · have h1 := Hll.out
                omega
              · exact (((HTi.out.trans HT3.out (fun _ h => .inl h)).trans HT4.out (fun _ h => .inl h)).trans HT5.out (fun _ h => .inl h))
            case measure =>
              have h1 := Hll.out
              simp [intOf]
              omega
end Go.Proofs.Ytdeefnhpechaiaa.PileE
