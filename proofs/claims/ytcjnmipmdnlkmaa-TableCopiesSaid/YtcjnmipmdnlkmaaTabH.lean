/- The walk of the law TableCopies: a copy and its original know nothing of one another. -/
import Derived.Test.YtcjnmipmdnlkmaaTabG
namespace Go.Proofs.Ytcjnmipmdnlkmaa.TabH
set_option linter.unusedVariables false
open Go.RowKit Go.Shelf Go.Proofs.YtcjnmipmdnlkmaaW.PrintWords Go.Proofs.YtcjnmipmdnlkmaaW.PrintLast Go.Proofs.YtcjnmipmdnlkmaaW.PrintMore Go.Proofs.Ytcjnmipmdnlkmaa.TabP Go.Proofs.Ytcjnmipmdnlkmaa.TabE Go.Proofs.Ytcjnmipmdnlkmaa.TabC Go.Proofs.Ytcjnmipmdnlkmaa.TabD Go.Proofs.Ytcjnmipmdnlkmaa.TabK Go.Proofs.Ytcjnmipmdnlkmaa.TabF Go.Proofs.Ytcjnmipmdnlkmaa.TabL Go.Proofs.Ytcjnmipmdnlkmaa.TabG Go.Proofs.Ytcjnmipmdnlkmaa.Q
theorem rising_drop {l : List Pr} (hr : Rising l) (k : Nat) : Rising (l.drop k) := hr.sublist (List.drop_sublist k l)
theorem del_drop {l : List Pr} (k : Nat) (h : k < l.length) : del (l.drop k) l[k].1 = l.drop (k + 1) := by
  rw [List.drop_eq_getElem_cons h, del_cons, if_neg (by rw [lt_irrefl]; simp), if_pos rfl]
theorem pair_cells {W : World} {B : Nat} {A : Option Addr} {c : Nat} {l : List Pr} (h : Kd.R k31 31 W B (fun _ => True) (.slice A l.length c) (l.map mk31)) (k : Nat) (hk : k < l.length) : ∃ ad, A = some ad ∧ W.cell? (ad.add (k * 2)) = some (.string l[k].1) ∧ W.cell? ⟨(ad.add (k * 2)).block, (ad.add (k * 2)).off + 1, none⟩ = some (.string l[k].2) := by
  obtain ⟨A', c', e0, hc, hC⟩ := Kd.R_reads h
  injection e0 with x0 y0 z0
  subst x0 z0
  obtain ⟨ad, hA, h1, h2⟩ := at_T31 hC (k : Int) (by omega) (by rw [lenm31]; omega)
  rw [rd31 l k _ (List.getElem?_eq_getElem hk)] at h1 h2
  simp only [Int.toNat_natCast, mk31] at h1 h2
  exact ⟨ad, hA, h1, h2⟩
set_option maxHeartbeats 8000000 in
set_option maxRecDepth 100000 in
theorem copies_walk (ops : List S43) (A : Option Addr) (c : Nat) (hc : ops.length ≤ c) (more : List S43) (Am : Option Addr) (cm : Nat) (hcm : more.length ≤ cm) (hmax : ops.length ≤ 9223372036854775807) (hmaxm : more.length ≤ 9223372036854775807) (w : World) (hC : Kd.C k43 w A ops.length ops) (hCm : Kd.C k43 w Am more.length more)
    (hsz : ∀ x ∈ more, x.f2.size ≤ 140737488351232) :
    Calls Try.prog 7 #[.slice A ops.length c, .slice Am more.length cm] w fun e w' => e = .returned (.bool true) ∧ Below w.heap.size w w' := by
  have HC := Lib.hid hC
  have HCm := Lib.hid hCm
  have HSz := Lib.hid hsz
  clear hC hCm hsz
  by_cases h100 : ops.length > 60
  · go_enter Try.func7, Try.ntmps7
    go_wp2_with (go_at_call 9; refine (heads_c _).mono ?_; rintro e w' ⟨rfl, hb⟩)
    go_ret
    exact ⟨rfl, hb⟩
  · by_cases h40 : more.length > 60
    · go_enter Try.func7, Try.ntmps7
      go_wp2_with (go_at_call 9; refine (heads_c _).mono ?_; rintro e w' ⟨rfl, hb⟩)
      go_ret
      exact ⟨rfl, hb⟩
    · go_enter Try.func7, Try.ntmps7
      go_wp2_with fail
      refine (made_s ops (by omega) A c hc w HC.out).mono ?_
      rintro e w1 ⟨g, A1, c1, l, rfl, Hr, hl, HT, HM, HC1, hc1, HB⟩
      clear HM HC1
      go_wp2_with fail
      refine (copy_c l (by omega) w1 w.heap.size g HB.out.size HT.out).mono ?_
      rintro e w2 ⟨q, rfl, hQ, hq, hb2⟩
      have hne : g ≠ q := Nat.ne_of_lt (Nat.lt_of_lt_of_le HT.out.lt hq)
      have HT2 := Lib.hid (HT.out.below hb2)
      have HQ2 := Lib.hid hQ
      have HB2 := Lib.hid (below_step HB.out hb2)
      clear hQ hb2 hq HT HB
      go_wp2_with fail
      refine (from_all l Hr.out (by omega) w2 w.heap.size g HT2.out).mono ?_
      rintro e w3 ⟨A3, c3, rfl, HF3, hb3⟩
      have HT3 := Lib.hid (HT2.out.below hb3)
      have HQ3 := Lib.hid (HQ2.out.below hb3)
      have HW3 := Lib.hid (Kd.R_lower HF3.out HB2.out.size)
      have HB3 := Lib.hid (below_step HB2.out hb3)
      clear hb3 HF3 HT2 HQ2 HB2
      go_wp2_with fail
      go_loopw [9] (fun vi wr => ∃ (j : Nat) (l2 : List Pr), j ≤ more.length ∧ vi = .int .i64 j ∧ l2.length ≤ l.length + j ∧ Hid (Rising l2) ∧ Hid (IsT wr w.heap.size g l2) ∧ Hid (IsT wr w.heap.size q l) ∧ Hid (Kd.R k31 31 wr w.heap.size (fun _ => True) (.slice A3 l.length c3) (l.map mk31)) ∧ Hid (Below w.heap.size w wr)) (fun vi _ => more.length - (intOf vi).toNat)
      case atStart => exact ⟨0, l, Nat.zero_le _, rfl, Nat.le_refl _, Hr.out, HT3.out, HQ3.out, HW3.out, HB3.out⟩
      case round =>
        obtain ⟨j, l2, hj, rfl, hlj, Hr2, HT, HQ, HW, HB⟩ := hrel
        clear HT3 HQ3 HW3 HB3
        by_cases hlt : j < more.length
        · obtain ⟨ad, x, rfl, hx, hcells⟩ := op_cells HCm.out j hlt
          obtain ⟨hk1, hk2, hk3⟩ := hcells wr HB.out
          have hxs := HSz.out x (List.mem_of_getElem? hx)
          have hadd : ∀ W : World, (Op.stringOp .add x.f2 ⟨#[120]⟩).run Try.prog W = .ok (.string (x.f2 ++ ⟨#[120]⟩)) W := fun W => run_string_add_sum W _ _ (by have : (⟨#[120]⟩ : ByteArray).size = 1 := rfl; omega)
          clear hx hcells hxs
          generalize x.f2 ++ ⟨#[120]⟩ = f2x at hadd
          go_wp2
          go_still_tail 12, (by kernel_rfl)
          go_wp2_with fail
          refine (put_c l2 Hr2.out (by omega) x.f1 f2x _ w.heap.size g ?sz ?ht).mono ?_
          case sz => exact HB.out.size
          case ht => exact HT.out
          rintro e w4 ⟨rfl, hT4, hg4⟩
          have hg4 := grown_drew hg4
          have HT4 := Lib.hid hT4
          have HQ4 := Lib.hid (HQ.out.other HT.out hg4 (Ne.symm hne))
          have HW4 := Lib.hid (R31_put HW.out HT.out hg4)
          have HB4 := Lib.hid (below_put HB.out HT.out hg4)
          clear hT4 hg4 hk1 hk2 hk3 hadd
          go_wp2
          go_roundw
          case rel =>
            refine ⟨j + 1, put l2 x.f1 f2x, by omega, by go_num, ?_, put_rising Hr2.out _ _, HT4.out, HQ4.out, HW4.out, HB4.out⟩
            rw [put_length]
            split <;> omega
          case measure => simp [intOf]; omega
        · go_wp2_with fail
          refine (from_all l Hr.out (by omega) wr w.heap.size q HQ.out).mono ?_
          rintro e w4 ⟨A4, c4, rfl, HF4, hb4⟩
          have HT4 := Lib.hid (HT.out.below hb4)
          have HQ4 := Lib.hid (HQ.out.below hb4)
          have HW4 := Lib.hid (Kd.R_below HW.out hb4)
          have HB4 := Lib.hid (below_step HB.out hb4)
          clear hb4 HT HQ HW HB
          go_wp2_with fail
          refine (refSame_c l l (by omega) A4 A3 c4 c3 w w4 _ _ HF4.out HW4.out).mono ?_
          rw [decide_eq_true rfl]
          rintro e w' ⟨rfl, ⟨m1, rfl⟩⟩
          have HT5 := Lib.hid (HT4.out.drewN m1)
          have HQ5 := Lib.hid (HQ4.out.drewN m1)
          have HW5 := Lib.hid (Kd.R_drewN HW4.out m1)
          have HB5 := Lib.hid (pw_below_drewN HB4.out m1)
          clear HT4 HQ4 HW4 HB4 HF4
          generalize w4.drewN m1 = w5 at *
          go_wp2_with fail
          refine (from_all l2 Hr2.out (by omega) w5 w.heap.size g HT5.out).mono ?_
          rintro e w6 ⟨A6, c6, rfl, HF6, hb6⟩
          have HT6 := Lib.hid (HT5.out.below hb6)
          have HQ6 := Lib.hid (HQ5.out.below hb6)
          have HW6 := Lib.hid (Kd.R_below HW5.out hb6)
          have HN6 := Lib.hid (Kd.R_lower HF6.out HB5.out.size)
          have HB6 := Lib.hid (below_step HB5.out hb6)
          clear hb6 HF6 HT5 HQ5 HW5 HB5
          go_wp2_with fail
          go_loopw [11] (fun vi wr => ∃ (k : Nat), k ≤ l.length ∧ vi = .int .i64 k ∧ Hid (IsT wr w.heap.size g l2) ∧ Hid (IsT wr w.heap.size q (l.drop k)) ∧ Hid (Kd.R k31 31 wr w.heap.size (fun _ => True) (.slice A3 l.length c3) (l.map mk31)) ∧ Hid (Kd.R k31 31 wr w.heap.size (fun _ => True) (.slice A6 l2.length c6) (l2.map mk31)) ∧ Hid (Below w.heap.size w wr)) (fun vi _ => l.length - (intOf vi).toNat)
          case atStart => exact ⟨0, Nat.zero_le _, rfl, HT6.out, HQ6.out, HW6.out, HN6.out, HB6.out⟩
          case round =>
            obtain ⟨k, hk, rfl, HT, HQ, HW, HN, HB⟩ := hrel
            clear HT6 HQ6 HW6 HN6 HB6
            by_cases hkl : k < l.length
            · obtain ⟨ad, rfl, hk1, hk2⟩ := pair_cells HW.out k hkl
              have HD := Lib.hid (del_drop k hkl)
              generalize l[k].1 = kk at hk1 HD
              clear hk2
              have hdl : (l.drop k).length ≤ 1000 := by rw [List.length_drop]; omega
              have Hdl := Lib.hid hdl
              clear hdl
              go_wp2_with fail
              refine (del_c (l.drop k) (rising_drop Hr.out k) Hdl.out kk _ w.heap.size q ?sz ?ht).mono ?_
              case sz => exact HB.out.size
              case ht => exact HQ.out
              rw [HD.out]
              rintro e w7 ⟨rfl, hQ7, hg7⟩
              have HQ7 := Lib.hid hQ7
              have HT7 := Lib.hid (HT.out.other HQ.out hg7 hne)
              have HW7 := Lib.hid (R31_put HW.out HQ.out hg7)
              have HN7 := Lib.hid (R31_put HN.out HQ.out hg7)
              have HB7 := Lib.hid (below_put HB.out HQ.out hg7)
              clear hQ7 hg7 hk1
              go_wp2
              go_roundw
              case rel => exact ⟨k + 1, by omega, by go_num, HT7.out, HQ7.out, HW7.out, HN7.out, HB7.out⟩
              case measure => simp [intOf]; omega
            · have hQe := HQ.out
              rw [List.drop_of_length_le (by omega)] at hQe
              have HQe := Lib.hid hQe
              clear hQe HQ HW
              go_wp2_with fail
              refine (len_c [] wr w.heap.size q HQe.out).mono ?_
              rintro e w' ⟨rfl, ⟨m2, rfl⟩⟩
              go_wp2_with fail
              refine (from_all l2 Hr2.out (by omega) (wr.drewN m2) w.heap.size g (HT.out.drewN m2)).mono ?_
              rintro e w8 ⟨A8, c8, rfl, HF8, hb8⟩
              have HN8 := Lib.hid (Kd.R_below (Kd.R_drewN HN.out m2) hb8)
              have HB8 := Lib.hid (below_step (pw_below_drewN HB.out m2) hb8)
              clear hb8
              go_wp2_with fail
              refine (refSame_c l2 l2 (by omega) A8 A6 c8 c6 w w8 _ _ HF8.out HN8.out).mono ?_
              rw [decide_eq_true rfl]
              rintro e w' ⟨rfl, ⟨m3, rfl⟩⟩
              go_wp2_with (go_at_call 9; refine (heads_c _).mono ?_; rintro e w' ⟨rfl, hb⟩)
              go_ret
              exact ⟨rfl, below_step (pw_below_drewN HB8.out m3) hb⟩
end Go.Proofs.Ytcjnmipmdnlkmaa.TabH
