/- The walk of the law TableLives: after each call both tables and the document's row tell the same. -/
import Derived.Test.YtcjnmipmdnlkmaaTabF
namespace Go.Proofs.Ytcjnmipmdnlkmaa.TabL
set_option linter.unusedVariables false
open Go.RowKit Go.Proofs.YtcjnmipmdnlkmaaW.PrintWords Go.Proofs.YtcjnmipmdnlkmaaW.PrintLast Go.Proofs.YtcjnmipmdnlkmaaW.PrintMore Go.Proofs.Ytcjnmipmdnlkmaa.TabP Go.Proofs.Ytcjnmipmdnlkmaa.TabE Go.Proofs.Ytcjnmipmdnlkmaa.TabC Go.Proofs.Ytcjnmipmdnlkmaa.TabD Go.Proofs.Ytcjnmipmdnlkmaa.TabF Go.Proofs.Ytcjnmipmdnlkmaa.Q
theorem lenm31 (l : List Pr) : (l.map mk31).length = l.length := List.length_map ..
theorem refSame_c (a b : List Pr) (hl : a.length ≤ 1000) (A0 A1 : Option Addr) (c0 c1 : Nat) (w W : World) (b0 b1 : Nat) (h0 : Kd.R k31 31 W b0 (fun _ => True) (.slice A0 a.length c0) (a.map mk31)) (h1 : Kd.R k31 31 W b1 (fun _ => True) (.slice A1 b.length c1) (b.map mk31)) :
    Calls Try.prog 20 #[.slice A0 a.length c0, .slice A1 b.length c1] W fun e w' => e = .returned (.bool (decide (a = b))) ∧ Drawn0 W w' := by
  obtain ⟨A0', c0', e0, hc0, hC0⟩ := Kd.R_reads h0
  obtain ⟨A1', c1', e1, hc1, hC1⟩ := Kd.R_reads h1
  injection e0 with x0 y0 z0
  injection e1 with x1 y1 z1
  subst x0 z0 x1 z1
  obtain ⟨k, hk⟩ := Ev.rounds (refSame_ev a b (by omega))
  have := horariumref06_Same.calls k A0 c0 (a.map mk31) A1 c1 (b.map mk31) _ W hC0 hc0 hC1 hc1 hk
  rwa [lenm31, lenm31] at this
theorem refGet_c (l : List Pr) (hr : Rising l) (hl : l.length ≤ 1000) (key : ByteArray) (A0 : Option Addr) (c0 : Nat) (W : World) (b0 : Nat) (h0 : Kd.R k31 31 W b0 (fun _ => True) (.slice A0 l.length c0) (l.map mk31)) :
    Calls Try.prog 17 #[.slice A0 l.length c0, .string key] W fun e w' => e = .returned (.tuple #[.string (TabP.get l key).1, .bool (TabP.get l key).2]) ∧ Drawn0 W w' := by
  obtain ⟨A0', c0', e0, hc0, hC0⟩ := Kd.R_reads h0
  injection e0 with x0 y0 z0
  subst x0 z0
  obtain ⟨k, hk⟩ := Ev.rounds (refGet_ev l hr (by omega) key)
  have := horariumref06_Get.calls k A0 c0 (l.map mk31) key _ _ W hC0 hc0 hk
  rwa [lenm31] at this
theorem refPut_s (l : List Pr) (hl : l.length ≤ 1000) (key v : ByteArray) (w W : World) (B : Nat) (vm : Value) (hB : Below B w W) (hBs : B = w.heap.size) (hR : Kd.R k31 31 W B (fun _ => True) vm (l.map mk31)) :
    Calls Try.prog 18 #[vm, .string key, .string v] W fun e w' => ∃ A c, e = .returned (.slice A (put l key v).length c) ∧ Hid (Kd.R k31 31 w' B (fun _ => True) (.slice A (put l key v).length c) ((put l key v).map mk31)) ∧ Below W.heap.size W w' := by
  refine (refPut_c l hl key v w W B vm hB hBs hR).mono ?_
  rintro e w' ⟨v', rfl, h1, h2⟩
  obtain ⟨A, c, rfl⟩ := Kd.R_slice h1
  rw [lenm31] at h1 ⊢
  exact ⟨A, c, rfl, h1, h2⟩
theorem refDelete_s (l : List Pr) (hr : Rising l) (hl : l.length ≤ 1000) (key : ByteArray) (w W : World) (B : Nat) (vm : Value) (hB : Below B w W) (hBs : B = w.heap.size) (hR : Kd.R k31 31 W B (fun _ => True) vm (l.map mk31)) :
    Calls Try.prog 19 #[vm, .string key] W fun e w' => ∃ A c, e = .returned (.slice A (del l key).length c) ∧ Hid (Kd.R k31 31 w' B (fun _ => True) (.slice A (del l key).length c) ((del l key).map mk31)) ∧ Below W.heap.size W w' := by
  refine (refDelete_c l hr hl key w W B vm hB hBs hR).mono ?_
  rintro e w' ⟨v', rfl, h1, h2⟩
  obtain ⟨A, c, rfl⟩ := Kd.R_slice h1
  rw [lenm31] at h1 ⊢
  exact ⟨A, c, rfl, h1, h2⟩
theorem cnt_empty (l : List Pr) : cnt l ⟨#[]⟩ = 0 := by
  cases l with
  | nil => rfl
  | cons x l =>
    rw [cnt_cons, if_neg]
    intro h
    have := lt_iff.1 h
    simp at this
theorem from_all (l : List Pr) (hr : Rising l) (hl : l.length ≤ 200) (w : World) (B g : Nat) (hT : IsT w B g l) :
    Calls Try.prog 21 #[.pointer (some ⟨g, 0, none⟩), .string ⟨#[]⟩, .int .i64 200] w fun e w' => ∃ A c, e = .returned (.slice A l.length c) ∧ Hid (Kd.R k31 31 w' w.heap.size (fun _ => True) (.slice A l.length c) (l.map mk31)) ∧ Below w.heap.size w w' := by
  have h := from21_c l hr (by omega) ⟨#[]⟩ 200 w B g hT
  have e : (l.drop (cnt l ⟨#[]⟩)).take (200 : Int).toNat = l := by
    rw [cnt_empty, List.drop_zero]
    exact List.take_of_length_le (by simpa using hl)
  rw [e] at h
  exact h
set_option maxHeartbeats 4000000 in
set_option maxRecDepth 100000 in
theorem lives_walk (ops : List S43) (A : Option Addr) (c : Nat) (hc : ops.length ≤ c) (hmax : ops.length ≤ 9223372036854775807) (w : World) (hC : Kd.C k43 w A ops.length ops) :
    Calls Try.prog 5 #[.slice A ops.length c] w fun e w' => e = .returned (.bool true) ∧ Below w.heap.size w w' := by
  have HC := Lib.hid hC
  have hu41 := Try.underlying41
  clear hC
  by_cases h120 : ops.length > 120
  · go_enter Try.func5, Try.ntmps5
    go_wp2_with (go_at_call 9; refine (heads_c _).mono ?_; rintro e w' ⟨rfl, hb⟩)
    go_ret
    exact ⟨rfl, hb⟩
  · go_enter Try.func5, Try.ntmps5
    go_wp2_with fail
    refine (new_t w w.heap.size (Nat.le_refl _)).mono ?_
    rintro e w1 ⟨g, rfl, hT1, -, hb1⟩
    have HB0 := Lib.hid (hb1.alloc hb1.size (.cells #[.slice none 0 0] 41))
    have HT0 := Lib.hid (IsT.below hT1 ((Below.refl _ _).alloc (Nat.le_refl _) (.cells #[.slice none 0 0] 41)))
    have hne : g ≠ w1.heap.size := Nat.ne_of_lt hT1.lt
    have HU0 : Hid (IsT (w1.alloc (.cells #[.slice none 0 0] 41)) w.heap.size w1.heap.size []) := ⟨none, 0, blk_new w1 _, hb1.size, Kd.R_nil _ _ _ _ _⟩
    clear hT1 hb1
    go_wp2_with fail
    generalize w1.alloc (.cells #[.slice none 0 0] 41) = w2 at *
    generalize w1.heap.size = u at *
    go_loopw [5, 6] (fun vm vi wr => ∃ (i : Nat) (l : List Pr) (Am : Option Addr) (cm : Nat), i ≤ ops.length ∧ vi = .int .i64 i ∧ vm = .slice Am l.length cm ∧ l.length ≤ i ∧ Hid (Rising l) ∧ Hid (IsT wr w.heap.size g l) ∧ Hid (IsT wr w.heap.size u l) ∧ Hid (Kd.R k31 31 wr w.heap.size (fun _ => True) (.slice Am l.length cm) (l.map mk31)) ∧ Hid (Below w.heap.size w wr)) (fun _ vi _ => ops.length - (intOf vi).toNat)
    case atStart => exact ⟨0, [], none, 0, Nat.zero_le _, rfl, rfl, Nat.le_refl _, List.Pairwise.nil, HT0.out, HU0.out, Kd.R_nil _ _ _ _ _, HB0.out⟩
    case round =>
      obtain ⟨i, l, Am, cm, hi, rfl, rfl, hli, Hr, HT, HU, HM, HB⟩ := hrel
      by_cases hlt : i < ops.length
      · obtain ⟨ad, x, rfl, hx, hcells⟩ := op_cells HC.out i hlt
        have HX := Lib.hid hcells
        obtain ⟨hk1, hk2, hk3⟩ := hcells wr HB.out
        clear hx hcells
        go_wp2_with fail
        refine (get_c l Hr.out (by omega) x.f1 wr w.heap.size g HT.out).mono ?_
        rintro e w' ⟨rfl, ⟨m1, rfl⟩⟩
        go_wp2_with fail
        refine (refGet_c l Hr.out (by omega) x.f1 Am cm (wr.drewN m1) w.heap.size (Kd.R_drewN HM.out _)).mono ?_
        rintro e w' ⟨rfl, ⟨m2, rfl⟩⟩
        have Hs := Lib.hid (get_snd l x.f1)
        generalize TabP.get l x.f1 = gr at *
        obtain ⟨gv, gb⟩ := gr
        have Hs2 : Hid (gb = has l x.f1) := Hs.out
        clear Hs hk1 hk2 hk3
        have HTq := Lib.hid (HT.out.drewN (m1 + m2))
        have HUq := Lib.hid (HU.out.drewN (m1 + m2))
        have HMq := Lib.hid (Kd.R_drewN HM.out (m1 + m2))
        have HBq := Lib.hid (pw_below_drewN HB.out (m1 + m2))
        obtain ⟨hk1, hk2, hk3⟩ := HX.out _ HBq.out
        rw [show (wr.drewN m1).drewN m2 = wr.drewN (m1 + m2) from World.drewN_drewN ..]
        clear HT HU HM HB
        generalize wr.drewN (m1 + m2) = wq at *
        by_cases h1 : x.f0 = 1
        · have h1b : (x.f0 == 1) = true := beq_iff_eq.2 h1
          clear h1
          go_wp2
          go_still_tail 11, (by kernel_rfl)
          go_wp2_with fail
          refine (put_c l Hr.out (by omega) x.f1 x.f2 _ w.heap.size g ?sz ?ht).mono ?_
          case sz => exact HBq.out.size
          case ht => exact HTq.out
          rintro e w3 ⟨rfl, hT3, hg3⟩
          have hg3 := grown_drew hg3
          have HT3 := Lib.hid hT3
          have HU3 := Lib.hid (HUq.out.other HTq.out hg3 (Ne.symm hne))
          have HM3 := Lib.hid (R31_put HMq.out HTq.out hg3)
          have HB3 := Lib.hid (below_put HBq.out HTq.out hg3)
          obtain ⟨hl1, hl2, hl3⟩ := HX.out w3 HB3.out
          clear hT3 hg3 hk1 hk2 hk3 HTq HUq HMq HBq
          go_wp2
          go_still_tail 11, (by kernel_rfl)
          go_wp2_with fail
          refine (put_c l Hr.out (by omega) x.f1 x.f2 _ w.heap.size u ?sz ?ht).mono ?_
          case sz => exact HB3.out.size
          case ht => exact HU3.out
          rintro e w4 ⟨rfl, hU4, hg4⟩
          have hg4 := grown_drew hg4
          have HU4 := Lib.hid hU4
          have HT4 := Lib.hid (HT3.out.other HU3.out hg4 hne)
          have HM4 := Lib.hid (R31_put HM3.out HU3.out hg4)
          have HB4 := Lib.hid (below_put HB3.out HU3.out hg4)
          obtain ⟨hk1, hk2, hk3⟩ := HX.out w4 HB4.out
          clear hU4 hg4 hl1 hl2 hl3 HT3 HU3 HM3 HB3
          go_wp2
          go_still_tail 11, (by kernel_rfl)
          go_wp2_with fail
          refine (refPut_s l (by omega) x.f1 x.f2 w _ w.heap.size _ ?sz ?ht ?hm).mono ?_
          case sz => exact below_drew HB4.out
          case ht => rfl
          case hm => exact Kd.R_drew HM4.out
          rintro e w5 ⟨A5, c5, rfl, HMm, hb5⟩
          have hb5 : Below w4.heap.size w4 w5 := below_drew' hb5
          have HTt := Lib.hid (HT4.out.below hb5)
          have HTu := Lib.hid (HU4.out.below hb5)
          have HBb := Lib.hid (below_step HB4.out hb5)
          have Hrp := Lib.hid (put_rising Hr.out x.f1 x.f2)
          have hlp : (put l x.f1 x.f2).length ≤ i + 1 := by
            rw [put_length]
            split <;> omega
          clear hb5 hk1 hk2 hk3 HT4 HU4 HM4 HB4
          generalize put l x.f1 x.f2 = p at *
          go_wp2_with fail
          refine (len_c p w5 w.heap.size g HTt.out).mono ?_
          rintro e w' ⟨rfl, ⟨k1, rfl⟩⟩
          go_wp2_with fail
          refine (len_c p (w5.drewN k1) w.heap.size u (HTu.out.drewN _)).mono ?_
          rintro e w' ⟨rfl, ⟨k2, rfl⟩⟩
          go_wp2
          go_roundw
          case rel => exact ⟨i + 1, p, _, _, by omega, by go_num, rfl, hlp, Hrp.out, HTt.out.drewN _, HTu.out.drewN _, Kd.R_drewN HMm.out _, pw_below_drewN HBb.out _⟩
          case measure => simp [intOf]; omega
        · have h1b : (x.f0 == 1) = false := beq_eq_false_iff_ne.2 h1
          clear h1
          by_cases h2 : x.f0 = 2
          · have h2b : (x.f0 == 2) = true := beq_iff_eq.2 h2
            clear h2
            go_wp2_with fail
            refine (del_c l Hr.out (by omega) x.f1 _ w.heap.size g ?sz ?ht).mono ?_
            case sz => exact HBq.out.size
            case ht => exact HTq.out
            rw [← Hs2.out]
            rintro e w3 ⟨rfl, hT3, hg3⟩
            have HT3 := Lib.hid hT3
            have HU3 := Lib.hid (HUq.out.other HTq.out hg3 (Ne.symm hne))
            have HM3 := Lib.hid (R31_put HMq.out HTq.out hg3)
            have HB3 := Lib.hid (below_put HBq.out HTq.out hg3)
            obtain ⟨hl1, hl2, hl3⟩ := HX.out w3 HB3.out
            clear hT3 hg3 hk1 hk2 hk3 HTq HUq HMq HBq
            go_wp2_with fail
            refine (del_c l Hr.out (by omega) x.f1 _ w.heap.size u ?sz ?ht).mono ?_
            case sz => exact HB3.out.size
            case ht => exact HU3.out
            rw [← Hs2.out]
            rintro e w4 ⟨rfl, hU4, hg4⟩
            have HU4 := Lib.hid hU4
            have HT4 := Lib.hid (HT3.out.other HU3.out hg4 hne)
            have HM4 := Lib.hid (R31_put HM3.out HU3.out hg4)
            have HB4 := Lib.hid (below_put HB3.out HU3.out hg4)
            obtain ⟨hk1, hk2, hk3⟩ := HX.out w4 HB4.out
            clear hU4 hg4 hl1 hl2 hl3 HT3 HU3 HM3 HB3
            go_wp2_with fail
            refine (refDelete_s l Hr.out (by omega) x.f1 w _ w.heap.size _ ?sz ?ht ?hm).mono ?_
            case sz => exact HB4.out
            case ht => rfl
            case hm => exact HM4.out
            rintro e w5 ⟨A5, c5, rfl, HMm, hb5⟩
            have HTt := Lib.hid (HT4.out.below hb5)
            have HTu := Lib.hid (HU4.out.below hb5)
            have HBb := Lib.hid (below_step HB4.out hb5)
            have Hrp := Lib.hid (del_rising Hr.out x.f1)
            have hlp : (del l x.f1).length ≤ i + 1 := by
              have := del_length l x.f1
              omega
            clear hb5 hk1 hk2 hk3 HT4 HU4 HM4 HB4
            generalize del l x.f1 = p at *
            go_wp2_with fail
            refine (len_c p w5 w.heap.size g HTt.out).mono ?_
            rintro e w' ⟨rfl, ⟨k1, rfl⟩⟩
            go_wp2_with fail
            refine (len_c p (w5.drewN k1) w.heap.size u (HTu.out.drewN _)).mono ?_
            rintro e w' ⟨rfl, ⟨k2, rfl⟩⟩
            go_wp2
            go_roundw
            case rel => exact ⟨i + 1, p, _, _, by omega, by go_num, rfl, hlp, Hrp.out, HTt.out.drewN _, HTu.out.drewN _, Kd.R_drewN HMm.out _, pw_below_drewN HBb.out _⟩
            case measure => simp [intOf]; omega
          · have h2b : (x.f0 == 2) = false := beq_eq_false_iff_ne.2 h2
            clear h2 hk1 hk2 hk3
            have HTt := Lib.hid HTq.out
            have HTu := Lib.hid HUq.out
            have HBb := Lib.hid HBq.out
            have HMm := Lib.hid HMq.out
            obtain ⟨hk1, hk2, hk3⟩ := HX.out wq HBq.out
            go_wp2_with fail
            refine (len_c l wq w.heap.size g HTt.out).mono ?_
            rintro e w' ⟨rfl, ⟨k1, rfl⟩⟩
            go_wp2_with fail
            refine (len_c l (wq.drewN k1) w.heap.size u (HTu.out.drewN _)).mono ?_
            rintro e w' ⟨rfl, ⟨k2, rfl⟩⟩
            go_wp2
            go_roundw
            case rel => exact ⟨i + 1, l, _, _, by omega, by go_num, rfl, (by omega), Hr.out, HTt.out.drewN _, HTu.out.drewN _, Kd.R_drewN HMm.out _, pw_below_drewN HBb.out _⟩
            case measure => simp [intOf]; omega
      · go_wp2_with fail
        refine (from_all l Hr.out (by omega) _ w.heap.size g HT.out).mono ?_
        rintro e w3 ⟨A3, c3, rfl, HF3, hb3⟩
        have HM3 := Lib.hid (Kd.R_below HM.out hb3)
        have HU3 := Lib.hid (HU.out.below hb3)
        have HB3 := Lib.hid (below_step HB.out hb3)
        clear hb3
        go_wp2_with fail
        refine (refSame_c l l (by omega) A3 Am c3 cm w w3 _ _ HF3.out HM3.out).mono ?_
        rw [decide_eq_true rfl]
        rintro e w' ⟨rfl, ⟨m1, rfl⟩⟩
        go_wp2_with fail
        refine (from_all l Hr.out (by omega) (w3.drewN m1) w.heap.size u (HU3.out.drewN m1)).mono ?_
        rintro e w4 ⟨A4, c4, rfl, HF4, hb4⟩
        have HM4 := Lib.hid (Kd.R_below (Kd.R_drewN HM3.out m1) hb4)
        have HB4 := Lib.hid (below_step (pw_below_drewN HB3.out m1) hb4)
        clear hb4
        go_wp2_with fail
        refine (refSame_c l l (by omega) A4 Am c4 cm w w4 _ _ HF4.out HM4.out).mono ?_
        rw [decide_eq_true rfl]
        rintro e w' ⟨rfl, ⟨m2, rfl⟩⟩
        go_wp2_with (go_at_call 9; refine (heads_c _).mono ?_; rintro e w' ⟨rfl, hb⟩)
        go_ret
        exact ⟨rfl, below_step (pw_below_drewN HB4.out m2) hb⟩
end Go.Proofs.Ytcjnmipmdnlkmaa.TabL
