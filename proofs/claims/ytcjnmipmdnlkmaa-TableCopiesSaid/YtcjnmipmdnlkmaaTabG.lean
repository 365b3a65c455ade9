/- The walk of the law TableFrom. -/
import Derived.Test.YtcjnmipmdnlkmaaTabL
import Derived.Test.YtcjnmipmdnlkmaaTabK
import Derived.Deep.RegionHeld3
namespace Go.Proofs.Ytcjnmipmdnlkmaa.TabG
set_option linter.unusedVariables false
open Go.RowKit Go.Shelf Go.Proofs.YtcjnmipmdnlkmaaW.PrintWords Go.Proofs.YtcjnmipmdnlkmaaW.PrintLast Go.Proofs.YtcjnmipmdnlkmaaW.PrintMore Go.Proofs.Ytcjnmipmdnlkmaa.TabP Go.Proofs.Ytcjnmipmdnlkmaa.TabE Go.Proofs.Ytcjnmipmdnlkmaa.TabC Go.Proofs.Ytcjnmipmdnlkmaa.TabD Go.Proofs.Ytcjnmipmdnlkmaa.TabK Go.Proofs.Ytcjnmipmdnlkmaa.TabF Go.Proofs.Ytcjnmipmdnlkmaa.TabL Go.Proofs.Ytcjnmipmdnlkmaa.Q
attribute [local go_sem] Oper.semAt_some
theorem refSame_C (a b : List Pr) (hl : a.length ≤ 1000) (A0 A1 : Option Addr) (c0 c1 : Nat) (W : World) (hc0 : a.length ≤ c0) (hC0 : Kd.C k31 W A0 a.length (a.map mk31)) (hc1 : b.length ≤ c1) (hC1 : Kd.C k31 W A1 b.length (b.map mk31)) :
    Calls Try.prog 20 #[.slice A0 a.length c0, .slice A1 b.length c1] W fun e w' => e = .returned (.bool (decide (a = b))) ∧ Drawn0 W w' := by
  obtain ⟨k, hk⟩ := Ev.rounds (refSame_ev a b (by omega))
  have ha := lenm31 a
  have hb := lenm31 b
  have := horariumref06_Same.calls k A0 c0 (a.map mk31) A1 c1 (b.map mk31) _ W (by rw [ha]; exact hC0) (by rw [ha]; exact hc0) (by rw [hb]; exact hC1) (by rw [hb]; exact hc1) hk
  rwa [ha, hb] at this
theorem refSame_R (p : List Pr) (A0 A1 : Option Addr) (c0 c1 : Nat) (W : World) (b : Nat) (hl : p.length ≤ 1000) (h0 : Kd.R k31 31 W b (fun _ => True) (.slice A0 p.length c0) (p.map mk31)) (hc1 : p.length ≤ c1) (hC1 : Kd.C k31 W A1 p.length (p.map mk31)) :
    Calls Try.prog 20 #[.slice A0 p.length c0, .slice A1 p.length c1] W fun e w' => e = .returned (.bool true) ∧ Drawn0 W w' := by
  obtain ⟨A0', c0', e0, hc0, hC0⟩ := Kd.R_reads h0
  injection e0 with x0 y0 z0
  subst x0 z0
  rw [lenm31] at hc0 hC0
  have := refSame_C p p hl A0 A1 c0 c1 W hc0 hC0 hc1 hC1
  rwa [decide_eq_true rfl] at this
def cutA (A : Option Addr) (c i : Nat) : Option Addr := if c = i then A else A.map (·.add (i * 2))
/-- What a cut of a row of pairs reads. -/
theorem want_C {W : World} {B : Nat} {A : Option Addr} {c : Nat} {l : List Pr} (h : Kd.R k31 31 W B (fun _ => True) (.slice A l.length c) (l.map mk31)) (i : Nat) (hi : i ≤ l.length) :
    Kd.C k31 W (cutA A c i) (l.length - i) ((l.drop i).map mk31) ∧ l.length ≤ c := by
  obtain ⟨A', c', e0, hc, hC⟩ := Kd.R_reads h
  injection e0 with x0 y0 z0
  subst x0 z0
  have hlm := lenm31 l
  have hCd := Kd.C_drop hC (m := i) (by rw [hlm]; exact hi) (c := c) (by rw [hlm]; rw [hlm] at hc; exact hc)
  rw [List.length_drop, hlm, ← List.map_drop] at hCd
  rw [hlm] at hc
  exact ⟨hCd, hc⟩
theorem want_take {W : World} {A : Option Addr} {n : Nat} {l : List Pr} (h : Kd.C k31 W A l.length (l.map mk31)) (hn : n ≤ l.length) : Kd.C k31 W A n ((l.take n).map mk31) := by
  have hlm := lenm31 l
  have h2 : Kd.C k31 W A (l.map mk31).length (l.map mk31) := by rw [hlm]; exact h
  have := Kd.C_take h2 (m := n) (by rw [hlm]; exact hn)
  rw [List.length_take, hlm, Nat.min_eq_left hn, ← List.map_take] at this
  exact this
/-- The reference's From: a cut of the row. -/
theorem refFrom_c (l : List Pr) (hl : l.length ≤ 1000) (key : ByteArray) (A : Option Addr) (c : Nat) (hc : l.length ≤ c) (W : World) (hC : Kd.C k31 W A l.length (l.map mk31)) :
    Calls Try.prog 22 #[.slice A l.length c, .string key] W fun e w' => e = .returned (.slice (cutA A c (cnt l key)) (l.length - cnt l key) (c - cnt l key)) ∧ Drawn0 W w' := by
  have HC := Lib.hid hC
  have hcn := cnt_le l key
  obtain ⟨i0, hi0, hz0, hz1, hz2⟩ := info_parts TabF.info31
  have hcut1 := cut_from (P := Try.prog) 25 31 .i64 Try.underlying25 hi0 2 hz1 A l.length c (cnt l key : Int) (by omega) (by omega)
  simp only [Int.toNat_natCast] at hcut1
  have hcut2 : ∀ W : World, (Instr.slice 25 (.slice A l.length c) (some (.int .i64 (cnt l key))) none none).run Try.prog W = .ok (.slice (cutA A c (cnt l key)) (l.length - cnt l key) (c - cnt l key)) W := hcut1
  generalize cutA A c (cnt l key) = Ac at hcut2 ⊢
  have HCut := Lib.hid hcut2
  have Hat := Lib.hid (at_cnt l key)
  have Hah := Lib.hid (TabP.ahead l key)
  clear hC hcut1 hcut2
  go_enter Try.func22, Try.ntmps22
  go_wp2_with fail
  go_loopw [5] (fun vi wr => ∃ i : Nat, i ≤ cnt l key ∧ vi = .int .i64 i ∧ wr = W) (fun vi _ => l.length - (intOf vi).toNat)
  case atStart => exact ⟨0, Nat.zero_le _, rfl, rfl⟩
  case round =>
    obtain ⟨i, hi, rfl, rfl⟩ := hrel
    by_cases hlt : i < l.length
    · have hx : l[i]? = some l[i] := List.getElem?_eq_getElem hlt
      obtain ⟨ad, rfl, hk1, hk2⟩ := at_T31 HC.out (i : Int) (by omega) (by omega)
      rw [rd31 l i _ hx] at hk1 hk2
      simp only [Int.toNat_natCast, mk31] at hk1 hk2
      by_cases hic : i < cnt l key
      · obtain ⟨x, hx', hlx⟩ := Hah.out i hic
        rw [hx] at hx'
        injection hx' with hx'
        rw [hx'] at hk1 hk2
        have hls : Op.bytesLess x.1.toList key.toList = true := hlx
        clear hx hx' hlx
        go_wp2
        go_roundw
        case rel => exact ⟨i + 1, by omega, by go_num, trivial⟩
        case measure => simp [intOf]; omega
      · obtain rfl : i = cnt l key := by omega
        have hls : Op.bytesLess l[cnt l key].1.toList key.toList = false := Bool.eq_false_iff.2 (Hat.out _ hx)
        generalize l[cnt l key] = x at *
        clear hx
        have hcut := HCut.out
        go_wp2
        go_ret
        exact ⟨rfl, ⟨0, rfl⟩⟩
    · obtain rfl : i = cnt l key := by omega
      have hcut := HCut.out
      go_wp2
      go_ret
      exact ⟨rfl, ⟨0, rfl⟩⟩
theorem refFrom_s (l : List Pr) (hl : l.length ≤ 1000) (key : ByteArray) (A : Option Addr) (c : Nat) (hc : l.length ≤ c) (W : World) (hC : Kd.C k31 W A l.length (l.map mk31)) :
    Calls Try.prog 22 #[.slice A l.length c, .string key] W fun e w' => ∃ Aw cw, e = .returned (.slice Aw (l.drop (cnt l key)).length cw) ∧ (l.drop (cnt l key)).length ≤ cw ∧
      Hid (∀ (X : World) (B : Nat), Kd.R k31 31 X B (fun _ => True) (.slice A l.length c) (l.map mk31) → Kd.C k31 X Aw (l.drop (cnt l key)).length ((l.drop (cnt l key)).map mk31)) ∧ Drawn0 W w' := by
  refine (refFrom_c l hl key A c hc W hC).mono ?_
  rintro e w' ⟨rfl, h⟩
  have hcn := cnt_le l key
  have hlen : (l.drop (cnt l key)).length = l.length - cnt l key := List.length_drop
  refine ⟨_, _, by rw [hlen], by omega, ?_, h⟩
  intro X B hR
  rw [hlen]
  exact (want_C hR (cnt l key) hcn).1
set_option maxHeartbeats 8000000 in
set_option maxRecDepth 100000 in
theorem from_walk (ops : List S43) (A : Option Addr) (c : Nat) (hc : ops.length ≤ c) (more : List S43) (Am : Option Addr) (cm : Nat) (hcm : more.length ≤ cm) (hmax : ops.length ≤ 9223372036854775807) (hmaxm : more.length ≤ 9223372036854775807) (key : ByteArray) (most : Int) (hmost : (Lit.int .u8 most).wf = true) (w : World) (hC : Kd.C k43 w A ops.length ops) (hCm : Kd.C k43 w Am more.length more) :
    Calls Try.prog 6 #[.slice A ops.length c, .slice Am more.length cm, .string key, .int .u8 most] w fun e w' => e = .returned (.bool true) ∧ Below w.heap.size w w' := by
  have HC := Lib.hid hC
  have HCm := Lib.hid hCm
  clear hC hCm
  by_cases h100 : ops.length > 100
  · go_enter Try.func6, Try.ntmps6
    go_wp2_with (go_at_call 9; refine (heads_c _).mono ?_; rintro e w' ⟨rfl, hb⟩)
    go_ret
    exact ⟨rfl, hb⟩
  · by_cases h40 : more.length > 40
    · go_enter Try.func6, Try.ntmps6
      go_wp2_with (go_at_call 9; refine (heads_c _).mono ?_; rintro e w' ⟨rfl, hb⟩)
      go_ret
      exact ⟨rfl, hb⟩
    · have hm0 : 0 ≤ most ∧ most ≤ 255 := by
        have h : IntKind.u8.min ≤ most ∧ most ≤ IntKind.u8.max := by simpa [Lit.wf] using hmost
        exact ⟨h.1, h.2⟩
      clear hmost
      refine (callsIn_wide (n := 3)).1 ?_
      refine callsIn_of_wp_marks Try.func6 rfl trivial ?_ rfl
      refine wpIn_wide.2 ?_
      simp only [Try.ntmps6, List.size_toArray, List.length_cons, List.length_nil, Nat.reduceAdd, Nat.reduceSub, Array.replicate_succ, Array.replicate_zero, List.push_toArray, List.append_toArray, List.nil_append, List.cons_append]
      go_wp2_with fail
      refine (made_s ops (by omega) A c hc w HC.out).mono ?_
      rintro e w1 ⟨g, A1, c1, l, rfl, Hr, hl, HT, HM, HC1, hc1, HB⟩
      go_wp2_with fail
      refine (refFrom_s l (by omega) key A1 c1 hc1 w1 HC1.out).mono ?_
      rintro e w' ⟨Aw, cw, rfl, hcw, HW, ⟨m1, rfl⟩⟩
      have hdl : (l.drop (cnt l key)).length ≤ 100 := by rw [List.length_drop]; omega
      generalize hds : l.drop (cnt l key) = ds at *
      have Hds := Lib.hid hds
      clear hds
      go_wp2_with fail
      refine (from_c l Hr.out (by omega) key (w1.drewN m1) (w1.drewN m1) (Below.refl _ _) w.heap.size g (HT.out.drewN m1)).mono ?_
      rintro e w2 ⟨q, A2, c2, rfl, hS, hq, hb2, -, -, -⟩
      rw [Hds.out] at hS
      have HB1 := Lib.hid (pw_below_drewN HB.out m1)
      have HT2 := Lib.hid (IsT.below (HT.out.drewN m1) hb2)
      have HM2 := Lib.hid (Kd.R_below (Kd.R_drewN HM.out m1) hb2)
      have HB2 := Lib.hid (below_step HB1.out hb2)
      have HS2 := Lib.hid hS
      clear hS hq hb2 HT HM HC1 HB HB1
      have hnil := eql_func (.func 26) #[]
      obtain ⟨p, hp⟩ : ∃ p, p = ds.take most.toNat := ⟨_, rfl⟩
      have HF0 : Hid (∀ W : World, Below w2.heap.size w2 W → Calls Try.prog 21 #[.pointer (some ⟨g, 0, none⟩), .string key, .int .i64 most] W fun e w' => ∃ A c, e = .returned (.slice A p.length c) ∧ Hid (Kd.R k31 31 w' W.heap.size (fun _ => True) (.slice A p.length c) (p.map mk31)) ∧ Below W.heap.size W w') := by
        intro W hW
        have := from21_c l Hr.out (by omega) key most W w.heap.size g (HT2.out.below hW)
        rw [Hds.out, ← hp] at this
        exact this
      obtain ⟨i0, hi0, hz0, hz1, hz2⟩ := info_parts TabF.info31
      have hpl : p.length = (min (ds.length : Int) most).toNat := by rw [hp, List.length_take]; omega
      have HP : Hid (Kd.C k31 w2 Aw p.length (p.map mk31)) := by
        have := want_take (HW.out _ _ HM2.out) (n := p.length) (by rw [hp, List.length_take]; omega)
        rw [show ds.take p.length = p from by rw [hp, List.length_take, ← List.take_eq_take_min]] at this
        exact this
      obtain ⟨mn, hmn, hmn0, hmn1⟩ : ∃ mn : Nat, min (ds.length : Int) most = (mn : Int) ∧ p.length = mn ∧ mn ≤ ds.length := ⟨p.length, by omega, rfl, by omega⟩
      have hcut := cut_to (P := Try.prog) 25 31 .i64 Try.underlying25 hi0 Aw ds.length cw (mn : Int) (by omega) (by omega) hcw
      simp only [Int.toNat_natCast] at hcut
      have hmn2 : (mn : Int) ≤ (cw : Int) := by omega
      have hmn3 : (mn : Int) ≤ (ds.length : Int) := by omega
      have Hpl := Lib.hid hmn0
      clear hp hpl hmn0
      go_wp2_with fail
      have hmw : IntKind.i64.wrap most = most := wrap_small _ (by omega) (by omega)
      go_region_held3 (fun W => Below w2.heap.size w2 W) (first | assumption | exact (Below.refl _ _).drew) (first
        | (go_at_call 21; refine (HF0.out _ (by assumption)).mono ?_; rintro e w3 ⟨A3, c3, rfl, HF3, hb3⟩; have hb4 := below_step (by assumption : Below w2.heap.size w2 _) hb3)
        | (go_at_call 20; rw [← Hpl.out]; refine (refSame_R p A3 Aw c3 cw _ _ (by rw [Hpl.out]; omega) HF3.out (by rw [Hpl.out]; omega) (Kd.C_below HP.out (by assumption))).mono ?_; rintro e w' ⟨rfl, ⟨m5, rfl⟩⟩; have hb6 := pw_below_drewN (by assumption : Below w2.heap.size w2 _) m5))
      all_goals (
        have hb7 : Below w2.heap.size w2 (w3.drewN m5) := by assumption
        have HTq := Lib.hid (HT2.out.below hb7)
        have HMq := Lib.hid (Kd.R_below HM2.out hb7)
        have HSq := Lib.hid (HS2.out.below hb7)
        have HBq := Lib.hid (below_step HB2.out hb7)
        clear hb3 hb4 hb6 hb7 hmw HF3 hcut hmn hmn1 hmn2 hmn3 HF0 HP HT2 HM2 HS2 HB2 Hpl
        generalize w3.drewN m5 = wq at *
        go_wp2_with fail
        go_loopw [13] (fun vi wr => ∃ (j : Nat) (l2 : List Pr), j ≤ more.length ∧ vi = .int .i64 j ∧ l2.length ≤ l.length + j ∧ Hid (Rising l2) ∧ Hid (IsT wr w.heap.size g l2) ∧ Hid (IsSeq wr q ds) ∧ Hid (Kd.R k31 31 wr w.heap.size (fun _ => True) (.slice A1 l.length c1) (l.map mk31)) ∧ Hid (Below w.heap.size w wr)) (fun vi _ => more.length - (intOf vi).toNat)
        case atStart => exact ⟨0, l, Nat.zero_le _, rfl, Nat.le_refl _, Hr.out, HTq.out, HSq.out, HMq.out, HBq.out⟩
        case round =>
          obtain ⟨j, l2, hj, rfl, hlj, Hr2, HT, HS, HM, HB⟩ := hrel
          clear HTq HSq HMq HBq
          by_cases hlt : j < more.length
          · obtain ⟨ad, x, rfl, hx, hcells⟩ := op_cells HCm.out j hlt
            obtain ⟨hk1, hk2, hk3⟩ := hcells wr HB.out
            clear hx hcells
            by_cases h2 : x.f0 = 2
            · have h2b : (x.f0 == 2) = true := beq_iff_eq.2 h2
              clear h2
              go_wp2_with fail
              refine (del_c l2 Hr2.out (by omega) x.f1 _ w.heap.size g ?sz ?ht).mono ?_
              case sz => exact HB.out.size
              case ht => exact HT.out
              rintro e w4 ⟨rfl, hT4, hg4⟩
              have HT4 := Lib.hid hT4
              have HS4 := Lib.hid (HS.out.put HT.out hg4)
              have HM4 := Lib.hid (R31_put HM.out HT.out hg4)
              have HB4 := Lib.hid (below_put HB.out HT.out hg4)
              clear hT4 hg4 hk1 hk2 hk3
              go_wp2
              go_roundw
              case rel =>
                refine ⟨j + 1, del l2 x.f1, by omega, by go_num, ?_, del_rising Hr2.out _, HT4.out, HS4.out, HM4.out, HB4.out⟩
                have := del_length l2 x.f1
                omega
              case measure => simp [intOf]; omega
            · have h2b : (x.f0 == 2) = false := beq_eq_false_iff_ne.2 h2
              clear h2
              go_wp2
              go_still_tail 11, (by kernel_rfl)
              go_wp2_with fail
              refine (put_c l2 Hr2.out (by omega) x.f1 x.f2 _ w.heap.size g ?sz ?ht).mono ?_
              case sz => exact HB.out.size
              case ht => exact HT.out
              rintro e w4 ⟨rfl, hT4, hg4⟩
              have hg4 := grown_drew hg4
              have HT4 := Lib.hid hT4
              have HS4 := Lib.hid (HS.out.put HT.out hg4)
              have HM4 := Lib.hid (R31_put HM.out HT.out hg4)
              have HB4 := Lib.hid (below_put HB.out HT.out hg4)
              clear hT4 hg4 hk1 hk2 hk3
              go_wp2
              go_roundw
              case rel =>
                refine ⟨j + 1, put l2 x.f1 x.f2, by omega, by go_num, ?_, put_rising Hr2.out _ _, HT4.out, HS4.out, HM4.out, HB4.out⟩
                rw [put_length]
                split <;> omega
              case measure => simp [intOf]; omega
          · go_wp2_with fail
            obtain ⟨A5, c5, hc5, hcell5, hC5⟩ := HS.out.reads
            have hq := HS.out.lt
            have hB5 : Below wr.heap.size wr (wr.alloc (.cells #[.slice none 0 0] 25)) := (Below.refl _ _).alloc (Nat.le_refl _) _
            have b1 := Boxed.new wr 25 (.slice none 0 0)
            have hsz : (wr.alloc (.cells #[.slice none 0 0] 25)).heap.size = wr.heap.size + 1 := by simp
            have hci : (wr.alloc (.cells #[.slice none 0 0] 25)).cell? ⟨q, 0, none⟩ = some (.slice A5 ds.length c5) := (hB5.cell (p := ⟨q, 0, none⟩) hq).trans hcell5
            obtain ⟨j0, hj0, hy0, hy1, hy2⟩ := info_parts TabF.info31
            refine (wpIn_wide (n := 3)).1 ?_
            refine wpIn_rangeFunc_ownG (F := Fence.wide) (n := 3) rfl (by omega) (gf := 26) (lb := #[.pointer (some ⟨q, 0, none⟩)]) rfl trivial (enters_of Try.func26 (by kernel_rfl) rfl)
              (seq_stops Fence.wide 2 trivial rfl (by omega) q ds wr.heap.size wr _ rfl hB5 (by omega) A5 c5 (by omega) hc5 hci hC5) belowK_t (belowK_b (by omega)) (Below.refl _ _) (fun _ => rfl)
              (fun pre W => (∃ v, Boxed W wr.heap.size 25 v ∧ W.ownsRow wr.heap.size 31 2 v pre.length (fl pre) ∧ True) ∧ Below wr.heap.size wr W)
              (fun _ _ _ => False)
              (OwnFrom.and (Own.from (holdsRow_own wr.heap.size wr.heap.size 25 31 2 (fun pre : List Pr => pre.length) (fun pre => fl pre) (fun _ _ => True)) _) (ownFrom_below (Nat.le_refl _) (by omega)))
              (fun _ _ _ _ _ hs _ _ => hs)
              ⟨⟨_, b1, World.ownsRow_nil _ _ _ _, trivial⟩, hB5⟩ ?_ ?assign ?body ?done ?stop
            case assign =>
              intro lp x W K hK
              have HK := Lib.hid hK
              clear hK
              gi_wp2
              exact HK.out
            case body =>
              rintro lp pre x W ⟨⟨v, hv, hrow, -⟩, hB⟩ hlt2
              have hc := hv.cell
              obtain ⟨Av, cv, rfl⟩ := TabF.own_slice hrow
              have HV := Lib.hid hv
              have HR := Lib.hid hrow
              have HBw := Lib.hid hB
              clear hv hrow hB hcell5 hC5 hci b1 hB5
              gi_wp2_with (gi_at_builtin; refine wpListIn_append_own _ rfl _ _ 25 rfl wr.heap.size 31 j0 (.agg #[(.string ⟨#[]⟩), (.string ⟨#[]⟩)]) 2 32 Try.underlying25 hj0 hy0 hy1 hy2 rfl (by decide) _ _ _ rfl (HR.out.alloc _) ⟨W.heap.size, 0, none⟩ 1 1 [.string x.1, .string x.2] rfl rfl (cell_two_new _ _ _ _) (by simp [Value.oneCell']) (by unfold maxLen; omega) (by omega) (by have := HBw.out.size; simp; omega) ?_; intro v' w6 hown' hgrow _; obtain ⟨g', cap', rfl⟩ := ownsRow_succ hown'; obtain ⟨hv1, hv2, hr2, hk2, hb2⟩ := HV.out.appended (by decide) HR.out HBw.out.size (by omega) hown' hgrow; have hc1 := hv1.cell; have hf1 := hv1.frozen)
              refine ⟨hk2.from _, hb2, ⟨_, hv2, ?_⟩, HBw.out.trans hb2⟩
              rw [fl_snoc, List.length_append, List.length_singleton]
              exact ⟨hr2, trivial⟩
            case done =>
              rintro D ys W hD rfl ⟨⟨v, hv, hrow, -⟩, hB⟩ hK
              have hc := hv.cell
              obtain ⟨Av, cv, rfl⟩ := TabF.own_slice hrow
              have HRo := Lib.hid (R_of_own hrow)
              have HCw := Lib.hid (HW.out _ _ (Kd.R_below HM.out hB))
              have HBe := Lib.hid (below_step HB.out hB)
              have HKD := Lib.hid hK
              clear hv hrow hB hK hcell5 hC5 hci b1 hB5
              go_wp2_with fail
              refine (refSame_R ys Av Aw cv cw W wr.heap.size (by omega) HRo.out hcw HCw.out).mono ?_
              rintro e w' ⟨rfl, ⟨m6, rfl⟩⟩
              go_wp2_with fail
              refine (heads_c _).mono ?_
              rintro e w7 ⟨rfl, hb7⟩
              have hD7 : D < W.heap.size := (Array.getElem?_eq_some_iff.1 HKD.out).1
              have HK7 := Lib.hid ((hb7.block D hD7).trans HKD.out)
              have HB7 := Lib.hid (below_step (pw_below_drewN HBe.out m6) hb7)
              clear hb7
              go_wp2_with fail
              refine ⟨by simp, .inl ⟨_, _, rfl, run_takeDeferred HK7.out, ?_⟩⟩
              refine ⟨_, results_tmp rfl _ _ _, rfl, ?_⟩
              have hlw : w.heap.size ≤ D := by
                have := HB.out.size
                omega
              exact HB7.out.trans (belowK_b (w := w) (Nat.le_refl _) _ D _ _ hlw HK7.out rfl rfl)
            case stop =>
              rintro D c pre W _ _ h _
              exact h.elim)
end Go.Proofs.Ytcjnmipmdnlkmaa.TabG
