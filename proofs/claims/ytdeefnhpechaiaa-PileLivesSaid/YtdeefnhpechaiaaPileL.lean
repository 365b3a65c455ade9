/- The walk of the law PileLives: what a pile tells at each step of whatever is done. -/
import Derived.Test.YtdeefnhpechaiaaPileS
namespace Go.Proofs.Ytdeefnhpechaiaa.PileL
set_option linter.unusedVariables false
open Go.RowKit Go.Maps Go.Proofs.YtdeefnhpechaiaaW.PrintWords Go.Proofs.YtdeefnhpechaiaaW.PrintLast Go.Proofs.YtdeefnhpechaiaaW.PrintMore Go.Proofs.Ytdeefnhpechaiaa.PileP Go.Proofs.Ytdeefnhpechaiaa.PileC Go.Proofs.Ytdeefnhpechaiaa.PileD Go.Proofs.Ytdeefnhpechaiaa.PileE Go.Proofs.Ytdeefnhpechaiaa.PileF Go.Proofs.Ytdeefnhpechaiaa.PileG Go.Proofs.Ytdeefnhpechaiaa.PileH Go.Proofs.Ytdeefnhpechaiaa.PileI Go.Proofs.Ytdeefnhpechaiaa.PileJ Go.Proofs.Ytdeefnhpechaiaa.PileK Go.Proofs.Ytdeefnhpechaiaa.PileM Go.Proofs.Ytdeefnhpechaiaa.PileR Go.Proofs.Ytdeefnhpechaiaa.PileS Go.Proofs.Ytdeefnhpechaiaa.Q
/-- the walk's own copy of an operation -/
def Bx (W : World) (lb : Nat) (x : S28) : Prop := W.heap[lb]? = some (.cells #[.int .i64 x.f0, .int .i64 x.f1, .int .i64 x.f2] 28 (0, 0))
theorem Bx.cells {W : World} {lb : Nat} {x : S28} (h : Bx W lb x) : W.cell? ⟨lb, 0, none⟩ = some (.int .i64 x.f0) ∧ W.cell? ⟨lb, 1, none⟩ = some (.int .i64 x.f1) ∧ W.cell? ⟨lb, 2, none⟩ = some (.int .i64 x.f2) :=
  ⟨(blk_cell h 0).trans rfl, (blk_cell h 1).trans rfl, (blk_cell h 2).trans rfl⟩
theorem Bx.turn {W W1 : World} {lb : Nat} {x : S28} {F : Nat → Prop} (h : Bx W lb x) (ht : Turn W W1 F) (hF : ¬ F lb) : Bx W1 lb x := (ht.block lb (blk_lt h) hF).trans h
theorem Bx.below {W W1 : World} {lb : Nat} {x : S28} (h : Bx W lb x) (hb : Below W.heap.size W W1) : Bx W1 lb x := (hb.block lb (blk_lt h)).trans h
theorem Bx.side {W W1 : World} {lb : Nat} {x : S28} (h : Bx W lb x) (ht : Turn W W1 (T38 W)) : Bx W1 lb x := h.turn ht fun hk => by
  obtain ⟨_, cells, hc⟩ := hk
  unfold Bx at h
  rw [h] at hc
  injection hc with hc
  injection hc with _ hc
  cases hc
theorem but_none {m : List It} {key : Int} (h : find m key = none) : but m key = m := by
  unfold but
  rw [List.filter_eq_self]
  intro y hy
  rcases find_spec m key with ⟨z, e, _⟩ | ⟨_, hn⟩
  · rw [h] at e; cases e
  · simpa using hn y hy
set_option maxHeartbeats 16000000 in
set_option maxRecDepth 100000 in
theorem lives_walk (ops : List S28) (A0 : Option Addr) (c0 : Nat) (hc : ops.length ≤ c0) (hmax : ops.length ≤ 9223372036854775807) (w : World) (hC : Kd.C k28 w A0 ops.length ops) (hwf : ∀ x ∈ ops, (Lit.int .i64 x.f1).wf = true) :
    Calls Try.prog 5 #[.slice A0 ops.length c0] w fun e w' => e = .returned (.bool true) ∧ Below w.heap.size w w' := by
  have HC := Lib.hid hC
  have HW := Lib.hid hwf
  clear hC hwf
  by_cases h150 : ops.length > 150
  · go_enter Try.func5, Try.ntmps5
    go_wp2_with (go_at_call 8; refine (heads_c _).mono ?_; rintro e w' ⟨rfl, hb⟩)
    go_ret
    exact ⟨rfl, hb⟩
  · go_enter Try.func5, Try.ntmps5
    go_wp2_with fail
    refine (new_o w w (Below.refl _ _)).mono ?_
    rintro e w1 ⟨g, F1, rfl, H1, -, -⟩
    go_wp2_with fail
    go_loopw [4, 5] (fun vm vi wr => ∃ (i : Nat) (q : List It) (A : Option Addr) (c K : Nat) (F : Nat → Prop), i ≤ ops.length ∧ vi = .int .i64 (i : Int) ∧ vm = .slice A q.length c ∧ q.length ≤ i ∧ Hid (K ≤ 5000 * i) ∧ Hid (Own w wr g q K F) ∧ Hid (RR w wr A c q)) (fun _ vi _ => ops.length - (intOf vi).toNat)
    case atStart => exact ⟨0, [], none, 0, 0, F1, Nat.zero_le _, rfl, rfl, Nat.le_refl _, Nat.le_refl _, H1.out, Kd.R_nil _ _ _ _ _⟩
    case round =>
      obtain ⟨i, q, A, c, K, F, hi, rfl, rfl, hqi, HK, HO, HR⟩ := hrel
      clear H1
      by_cases hlt : i < ops.length
      · obtain ⟨ad, x, rfl, hx, hcells⟩ := op_cells HC.out i hlt
        obtain ⟨hk1, hk2, hk3⟩ := hcells wr HO.out.below
        have hxw := HW.out x (List.mem_of_getElem? hx)
        have hcap := cap2 K i (by omega) HK.out
        have hq1000 : q.length ≤ 1000 := by omega
        have Hu := Lib.hid HO.out.is.uniq
        have hu28 := Try.underlying28
        clear hx hcells
        go_wp2_with fail
        clear hk1 hk2 hk3
        have hbx : Bx (wr.alloc (.cells #[.int .i64 x.f0, .int .i64 x.f1, .int .i64 x.f2] 28)) wr.heap.size x := blk_new wr _
        have hO2 : Own w (wr.alloc (.cells #[.int .i64 x.f0, .int .i64 x.f1, .int .i64 x.f2] 28)) g q K F := HO.out.step ((Below.refl _ _).alloc (Nat.le_refl _) _)
        have hR2 : RR w (wr.alloc (.cells #[.int .i64 x.f0, .int .i64 x.f1, .int .i64 x.f2] 28)) A c q := HR.out.below ((Below.refl _ _).alloc (Nat.le_refl _) _)
        have hFl : ¬ F wr.heap.size := fun hk => Nat.lt_irrefl _ (HO.out.is.foot _ hk).2
        have HFl := Lib.hid hFl
        have HO2 := Lib.hid hO2
        have HR2 := Lib.hid hR2
        have Hbx := Lib.hid hbx
        clear hbx hO2 hR2 hFl HO HR
        generalize wr.alloc (.cells #[.int .i64 x.f0, .int .i64 x.f1, .int .i64 x.f2] 28) = w2 at *
        generalize wr.heap.size = lb at *
        refine (find_r w w2 A c q hq1000 HR2.out x.f1).mono ?_
        rintro e w3 ⟨rfl, ⟨n3, rfl⟩⟩
        have HO3 := Lib.hid (HO2.out.step (pw_below_drewN (Below.refl _ _) n3))
        have HR3 := Lib.hid (HR2.out.below (pw_below_drewN (Below.refl _ _) n3))
        have Hbx3 := Lib.hid (Hbx.out.below (pw_below_drewN (Below.refl _ _) n3))
        generalize w2.drewN n3 = w3 at *
        clear HO2 HR2 Hbx
        obtain ⟨hb30, hb31, hb32⟩ := Hbx3.out.cells
        go_wp2_with fail
        refine (rank_m w3 w.heap.size g q K F HO3.out.is x.f1 hxw).mono ?_
        clear hb30 hb31 hb32
        rcases place_spec Hu.out x.f1 with ⟨at_, y, hp, hy, hyk, hf⟩ | ⟨hp, hf⟩
        · have hpi : placeI q x.f1 = (at_ : Int) := by unfold placeI; rw [hp]
          rw [hf, hpi, show ((some y).map Prod.snd).getD 0 = y.2 from rfl, show (some y).isSome = true from rfl]
          have hatl : at_ < q.length := (List.getElem?_eq_some_iff.1 hy).1
          have Hy := Lib.hid hy
          have Hf := Lib.hid hf
          have Hyk := Lib.hid hyk
          clear hp hpi hf hy hyk
          rintro e w4 ⟨rfl, hb4⟩
          have HO4 := Lib.hid (HO3.out.step hb4)
          have HR4 := Lib.hid (HR3.out.below hb4)
          have Hbx4 := Lib.hid (Hbx3.out.below hb4)
          obtain ⟨hb40, hb41, hb42⟩ := Hbx4.out.cells
          clear hb4 HO3 HR3 Hbx3
          obtain ⟨ar, hAr, hr1, hr2⟩ := HR4.out.at_ at_ y Hy.out
          subst hAr
          have hatz : (at_ : Int) < (q.length : Int) := by omega
          by_cases h1 : x.f0 = 1
          · have d1 : (x.f0 == 1) = true := beq_iff_eq.2 h1
            clear h1
            go_wp2_with fail
            refine (push_r w w4 g q hq1000 K F HO4.out _ c HR4.out x.f1 x.f2).mono ?_
            rw [Hf.out, show (some y).isNone = false from rfl, if_neg (by simp)]
            rintro e w5 ⟨A5, c5, rfl, HR5, HO5, HT5⟩
            have Hbx5 := Lib.hid (Hbx4.out.side HT5.out)
            obtain ⟨hb50, hb51, hb52⟩ := Hbx5.out.cells
            clear hb40 hb41 hb42 HT5 HO4 HR4 hr1 hr2
            go_wp2_with fail
            refine (push_o w w5 g q (by omega) K hcap F HO5.out x.f1 x.f2 hxw).mono ?_
            rw [Hf.out, show (some y).isNone = false from rfl, if_neg (by simp)]
            rintro e w6 ⟨rfl, K6, F6, HO6, hK6, HT6, -⟩
            have HR6 := Lib.hid (HR5.out.turn HO5.out.is HT6.out)
            clear hb50 hb51 hb52 HO5 HR5 HT6 Hbx5 Hbx4
            go_wp2_with fail
            refine (len_m w6 w.heap.size g q K6 F6 HO6.out.is).mono ?_
            rintro e w9 ⟨rfl, ⟨n9, rfl⟩⟩
            have HO9 := Lib.hid (HO6.out.step (pw_below_drewN (Below.refl _ _) n9))
            have HR9 := Lib.hid (HR6.out.below (pw_below_drewN (Below.refl _ _) n9))
            generalize w6.drewN n9 = w9 at *
            go_wp2
            go_roundw
            case rel => exact ⟨i + 1, q, A5, c5, K6, F6, by omega, by go_num, rfl, by omega, by have := HK.out; show K6 ≤ 5000 * (i + 1); omega, HO9.out, HR9.out⟩
            case measure => simp [intOf]; omega
          · have d1 : (x.f0 == 1) = false := beq_eq_false_iff_ne.2 h1
            clear h1
            by_cases h2 : x.f0 = 2
            · have d2 : (x.f0 == 2) = true := beq_iff_eq.2 h2
              clear h2
              go_wp2_with fail
              refine (move_r w w4 g q hq1000 K F HO4.out _ c HR4.out x.f1 x.f2).mono ?_
              rw [Hf.out, show (some y).isSome = true from rfl, if_pos rfl]
              have hlen : (but q x.f1 ++ [(x.f1, x.f2)]).length ≤ i + 1 := by rw [but_length Hu.out x.f1 Hf.out x.f2]; omega
              generalize hq2 : but q x.f1 ++ [(x.f1, x.f2)] = q2 at *
              have Hq2 := Lib.hid hq2
              clear hq2
              rintro e w5 ⟨A5, c5, rfl, HR5, HO5, HT5⟩
              have Hbx5 := Lib.hid (Hbx4.out.side HT5.out)
              obtain ⟨hb50, hb51, hb52⟩ := Hbx5.out.cells
              clear hb40 hb41 hb42 HT5 HO4 HR4 hr1 hr2
              go_wp2_with fail
              refine (move_o w w5 g q hq1000 K hcap F HO5.out x.f1 x.f2 hxw).mono ?_
              rw [Hf.out, show (some y).isSome = true from rfl, if_pos rfl, Hq2.out]
              rintro e w6 ⟨rfl, K6, HO6, hK6, HT6⟩
              have HR6 := Lib.hid (HR5.out.turn HO5.out.is HT6.out)
              clear hb50 hb51 hb52 HO5 HR5 HT6 Hbx5 Hbx4
              go_wp2_with fail
              refine (len_m w6 w.heap.size g q2 K6 F HO6.out.is).mono ?_
              rintro e w9 ⟨rfl, ⟨n9, rfl⟩⟩
              have HO9 := Lib.hid (HO6.out.step (pw_below_drewN (Below.refl _ _) n9))
              have HR9 := Lib.hid (HR6.out.below (pw_below_drewN (Below.refl _ _) n9))
              generalize w6.drewN n9 = w9 at *
              go_wp2
              go_roundw
              case rel => exact ⟨i + 1, q2, A5, c5, K6, F, by omega, by go_num, rfl, hlen, by have := HK.out; show K6 ≤ 5000 * (i + 1); omega, HO9.out, HR9.out⟩
              case measure => simp [intOf]; omega
            · have d2 : (x.f0 == 2) = false := beq_eq_false_iff_ne.2 h2
              clear h2
              by_cases h3 : x.f0 = 3
              · have d3 : (x.f0 == 3) = true := beq_iff_eq.2 h3
                clear h3
                go_wp2_with fail
                refine (drop_o w w4 g q hq1000 K hcap F HO4.out x.f1 hxw).mono ?_
                rw [Hf.out, show (some y).isSome = true from rfl]
                rintro e w6 ⟨rfl, K6, HO6, hK6, HT6⟩
                have HR6 := Lib.hid (HR4.out.turn HO4.out.is HT6.out)
                have hbi := but_idx Hu.out Hy.out
                rw [Hyk.out] at hbi
                rw [hbi] at HO6
                have hlen : (q.eraseIdx at_).length ≤ i + 1 := by rw [List.length_eraseIdx]; split <;> omega
                have hw6 := HO6.out.below.size
                clear hb40 hb41 hb42 HO4 HR4 HT6 Hbx4 hr1 hr2 hbi
                go_wp2_with fail
                refine (without_r w w6 hw6 _ c q hq1000 HR6.out at_ hatl).mono ?_
                rintro e w7 ⟨A7, c7, rfl, HR7, HB7⟩
                have HO7 := Lib.hid (HO6.out.step HB7.out)
                generalize q.eraseIdx at_ = q2 at *
                clear HO6 HR6 HB7 hw6
                go_wp2_with fail
                refine (len_m w7 w.heap.size g q2 K6 F HO7.out.is).mono ?_
                rintro e w9 ⟨rfl, ⟨n9, rfl⟩⟩
                have HO9 := Lib.hid (HO7.out.step (pw_below_drewN (Below.refl _ _) n9))
                have HR9 := Lib.hid (HR7.out.below (pw_below_drewN (Below.refl _ _) n9))
                generalize w7.drewN n9 = w9 at *
                go_wp2
                go_roundw
                case rel => exact ⟨i + 1, q2, A7, c7, K6, F, by omega, by go_num, rfl, hlen, by have := HK.out; show K6 ≤ 5000 * (i + 1); omega, HO9.out, HR9.out⟩
                case measure => simp [intOf]; omega
              · have d3 : (x.f0 == 3) = false := beq_eq_false_iff_ne.2 h3
                clear h3
                by_cases h4 : x.f0 = 4
                · have d4 : (x.f0 == 4) = true := beq_iff_eq.2 h4
                  clear h4
                  go_wp2_with fail
                  refine (popped_c w w4 g q hq1000 K hcap F HO4.out _ c HR4.out).mono ?_
                  rintro e w6 ⟨rfl, K6, HO6, hK6, HR6⟩
                  clear hb40 hb41 hb42 HO4 HR4 Hbx4 hr1 hr2
                  by_cases hq0 : q = []
                  · subst hq0; simp at hatl
                  · have hql : 0 < q.length := List.length_pos_iff.2 hq0
                    have hqz : (0 : Int) < (q.length : Int) := by omega
                    obtain ⟨n, hn, hcall⟩ := top_r w w6 _ c q hq1000 hq0 HR6.out
                    have hnl : n < q.length := (List.getElem?_eq_some_iff.1 hn).1
                    have Hcall := Lib.hid hcall
                    rw [erase_idx Hu.out hn] at HO6
                    have hlen : (q.eraseIdx n).length ≤ i + 1 := by rw [List.length_eraseIdx]; split <;> omega
                    clear hcall hn hq0
                    go_wp2_with fail
                    refine (Hcall.out).mono ?_
                    rintro e w7 ⟨rfl, ⟨n7, rfl⟩⟩
                    have HO7 := Lib.hid (HO6.out.step (pw_below_drewN (Below.refl _ _) n7))
                    have HR7 := Lib.hid (HR6.out.below (pw_below_drewN (Below.refl _ _) n7))
                    clear HO6 HR6 Hcall
                    generalize w6.drewN n7 = w7 at *
                    have hw7 := HO7.out.below.size
                    go_wp2_with fail
                    refine (without_r w w7 hw7 _ c q hq1000 HR7.out n hnl).mono ?_
                    rintro e w8 ⟨A8, c8, rfl, HR8, HB8⟩
                    have HO8 := Lib.hid (HO7.out.step HB8.out)
                    generalize q.eraseIdx n = q2 at *
                    clear HO7 HR7 HB8 hw7
                    go_wp2_with fail
                    refine (len_m w8 w.heap.size g q2 K6 F HO8.out.is).mono ?_
                    rintro e w9 ⟨rfl, ⟨n9, rfl⟩⟩
                    have HO9 := Lib.hid (HO8.out.step (pw_below_drewN (Below.refl _ _) n9))
                    have HR9 := Lib.hid (HR8.out.below (pw_below_drewN (Below.refl _ _) n9))
                    generalize w8.drewN n9 = w9 at *
                    go_wp2
                    go_roundw
                    case rel => exact ⟨i + 1, q2, A8, c8, K6, F, by omega, by go_num, rfl, hlen, by have := HK.out; show K6 ≤ 5000 * (i + 1); omega, HO9.out, HR9.out⟩
                    case measure => simp [intOf]; omega
                · have d4 : (x.f0 == 4) = false := beq_eq_false_iff_ne.2 h4
                  clear h4
                  go_wp2_with fail
                  refine (len_m w4 w.heap.size g q K F HO4.out.is).mono ?_
                  rintro e w9 ⟨rfl, ⟨n9, rfl⟩⟩
                  have HO9 := Lib.hid (HO4.out.step (pw_below_drewN (Below.refl _ _) n9))
                  have HR9 := Lib.hid (HR4.out.below (pw_below_drewN (Below.refl _ _) n9))
                  generalize w4.drewN n9 = w9 at *
                  go_wp2
                  go_roundw
                  case rel => exact ⟨i + 1, q, (some ar), c, K, F, by omega, by go_num, rfl, by omega, by have := HK.out; show K ≤ 5000 * (i + 1); omega, HO9.out, HR9.out⟩
                  case measure => simp [intOf]; omega
        · have hpi : placeI q x.f1 = -1 := by unfold placeI; rw [hp]
          rw [hf, hpi, show ((none : Option It).map Prod.snd).getD 0 = 0 from rfl, show (none : Option It).isSome = false from rfl]
          have Hf := Lib.hid hf
          clear hp hpi hf
          rintro e w4 ⟨rfl, hb4⟩
          have HO4 := Lib.hid (HO3.out.step hb4)
          have HR4 := Lib.hid (HR3.out.below hb4)
          have Hbx4 := Lib.hid (Hbx3.out.below hb4)
          obtain ⟨hb40, hb41, hb42⟩ := Hbx4.out.cells
          clear hb4 HO3 HR3 Hbx3
          by_cases h1 : x.f0 = 1
          · have d1 : (x.f0 == 1) = true := beq_iff_eq.2 h1
            clear h1
            go_wp2_with fail
            refine (push_r w w4 g q hq1000 K F HO4.out _ c HR4.out x.f1 x.f2).mono ?_
            rw [Hf.out, show (none : Option It).isNone = true from rfl, if_pos rfl]
            have hlen : (q ++ [(x.f1, x.f2)]).length ≤ i + 1 := by rw [List.length_append, List.length_singleton]; omega
            generalize hq2 : q ++ [(x.f1, x.f2)] = q2 at *
            have Hq2 := Lib.hid hq2
            clear hq2
            rintro e w5 ⟨A5, c5, rfl, HR5, HO5, HT5⟩
            have Hbx5 := Lib.hid (Hbx4.out.side HT5.out)
            obtain ⟨hb50, hb51, hb52⟩ := Hbx5.out.cells
            clear hb40 hb41 hb42 HT5 HO4 HR4
            go_wp2_with fail
            refine (push_o w w5 g q (by omega) K hcap F HO5.out x.f1 x.f2 hxw).mono ?_
            rw [Hf.out, show (none : Option It).isNone = true from rfl, if_pos rfl, Hq2.out]
            rintro e w6 ⟨rfl, K6, F6, HO6, hK6, HT6, -⟩
            have HR6 := Lib.hid (HR5.out.turn HO5.out.is HT6.out)
            clear hb50 hb51 hb52 HO5 HR5 HT6 Hbx5 Hbx4
            go_wp2_with fail
            refine (len_m w6 w.heap.size g q2 K6 F6 HO6.out.is).mono ?_
            rintro e w9 ⟨rfl, ⟨n9, rfl⟩⟩
            have HO9 := Lib.hid (HO6.out.step (pw_below_drewN (Below.refl _ _) n9))
            have HR9 := Lib.hid (HR6.out.below (pw_below_drewN (Below.refl _ _) n9))
            generalize w6.drewN n9 = w9 at *
            go_wp2
            go_roundw
            case rel => exact ⟨i + 1, q2, A5, c5, K6, F6, by omega, by go_num, rfl, hlen, by have := HK.out; show K6 ≤ 5000 * (i + 1); omega, HO9.out, HR9.out⟩
            case measure => simp [intOf]; omega
          · have d1 : (x.f0 == 1) = false := beq_eq_false_iff_ne.2 h1
            clear h1
            by_cases h2 : x.f0 = 2
            · have d2 : (x.f0 == 2) = true := beq_iff_eq.2 h2
              clear h2
              go_wp2_with fail
              refine (move_r w w4 g q hq1000 K F HO4.out _ c HR4.out x.f1 x.f2).mono ?_
              rw [Hf.out, show (none : Option It).isSome = false from rfl, if_neg (by simp)]
              rintro e w5 ⟨A5, c5, rfl, HR5, HO5, HT5⟩
              have Hbx5 := Lib.hid (Hbx4.out.side HT5.out)
              obtain ⟨hb50, hb51, hb52⟩ := Hbx5.out.cells
              clear hb40 hb41 hb42 HT5 HO4 HR4
              go_wp2_with fail
              refine (move_o w w5 g q hq1000 K hcap F HO5.out x.f1 x.f2 hxw).mono ?_
              rw [Hf.out, show (none : Option It).isSome = false from rfl, if_neg (by simp)]
              rintro e w6 ⟨rfl, K6, HO6, hK6, HT6⟩
              have HR6 := Lib.hid (HR5.out.turn HO5.out.is HT6.out)
              clear hb50 hb51 hb52 HO5 HR5 HT6 Hbx5 Hbx4
              go_wp2_with fail
              refine (len_m w6 w.heap.size g q K6 F HO6.out.is).mono ?_
              rintro e w9 ⟨rfl, ⟨n9, rfl⟩⟩
              have HO9 := Lib.hid (HO6.out.step (pw_below_drewN (Below.refl _ _) n9))
              have HR9 := Lib.hid (HR6.out.below (pw_below_drewN (Below.refl _ _) n9))
              generalize w6.drewN n9 = w9 at *
              go_wp2
              go_roundw
              case rel => exact ⟨i + 1, q, A5, c5, K6, F, by omega, by go_num, rfl, by omega, by have := HK.out; show K6 ≤ 5000 * (i + 1); omega, HO9.out, HR9.out⟩
              case measure => simp [intOf]; omega
            · have d2 : (x.f0 == 2) = false := beq_eq_false_iff_ne.2 h2
              clear h2
              by_cases h3 : x.f0 = 3
              · have d3 : (x.f0 == 3) = true := beq_iff_eq.2 h3
                clear h3
                go_wp2_with fail
                refine (drop_o w w4 g q hq1000 K hcap F HO4.out x.f1 hxw).mono ?_
                rw [Hf.out, show (none : Option It).isSome = false from rfl, but_none Hf.out]
                rintro e w6 ⟨rfl, K6, HO6, hK6, HT6⟩
                have HR6 := Lib.hid (HR4.out.turn HO4.out.is HT6.out)
                clear hb40 hb41 hb42 HO4 HR4 HT6 Hbx4
                go_wp2_with fail
                refine (len_m w6 w.heap.size g q K6 F HO6.out.is).mono ?_
                rintro e w9 ⟨rfl, ⟨n9, rfl⟩⟩
                have HO9 := Lib.hid (HO6.out.step (pw_below_drewN (Below.refl _ _) n9))
                have HR9 := Lib.hid (HR6.out.below (pw_below_drewN (Below.refl _ _) n9))
                generalize w6.drewN n9 = w9 at *
                go_wp2
                go_roundw
                case rel => exact ⟨i + 1, q, A, c, K6, F, by omega, by go_num, rfl, by omega, by have := HK.out; show K6 ≤ 5000 * (i + 1); omega, HO9.out, HR9.out⟩
                case measure => simp [intOf]; omega
              · have d3 : (x.f0 == 3) = false := beq_eq_false_iff_ne.2 h3
                clear h3
                by_cases h4 : x.f0 = 4
                · have d4 : (x.f0 == 4) = true := beq_iff_eq.2 h4
                  clear h4
                  go_wp2_with fail
                  refine (popped_c w w4 g q hq1000 K hcap F HO4.out _ c HR4.out).mono ?_
                  rintro e w6 ⟨rfl, K6, HO6, hK6, HR6⟩
                  clear hb40 hb41 hb42 HO4 HR4 Hbx4
                  by_cases hq0 : q = []
                  · subst hq0
                    rw [show ([] : List It).erase (tp []) = [] from rfl] at HO6
                    go_wp2_with fail
                    refine (len_m w6 w.heap.size g [] K6 F HO6.out.is).mono ?_
                    rintro e w9 ⟨rfl, ⟨n9, rfl⟩⟩
                    have HO9 := Lib.hid (HO6.out.step (pw_below_drewN (Below.refl _ _) n9))
                    have HR9 := Lib.hid (HR6.out.below (pw_below_drewN (Below.refl _ _) n9))
                    generalize w6.drewN n9 = w9 at *
                    go_wp2
                    go_roundw
                    case rel => exact ⟨i + 1, [], A, c, K6, F, by omega, by go_num, rfl, by simp, by have := HK.out; show K6 ≤ 5000 * (i + 1); omega, HO9.out, HR9.out⟩
                    case measure => simp [intOf]; omega
                  · have hql : 0 < q.length := List.length_pos_iff.2 hq0
                    have hqz : (0 : Int) < (q.length : Int) := by omega
                    obtain ⟨n, hn, hcall⟩ := top_r w w6 _ c q hq1000 hq0 HR6.out
                    have hnl : n < q.length := (List.getElem?_eq_some_iff.1 hn).1
                    have Hcall := Lib.hid hcall
                    rw [erase_idx Hu.out hn] at HO6
                    have hlen : (q.eraseIdx n).length ≤ i + 1 := by rw [List.length_eraseIdx]; split <;> omega
                    clear hcall hn hq0
                    go_wp2_with fail
                    refine (Hcall.out).mono ?_
                    rintro e w7 ⟨rfl, ⟨n7, rfl⟩⟩
                    have HO7 := Lib.hid (HO6.out.step (pw_below_drewN (Below.refl _ _) n7))
                    have HR7 := Lib.hid (HR6.out.below (pw_below_drewN (Below.refl _ _) n7))
                    clear HO6 HR6 Hcall
                    generalize w6.drewN n7 = w7 at *
                    have hw7 := HO7.out.below.size
                    go_wp2_with fail
                    refine (without_r w w7 hw7 _ c q hq1000 HR7.out n hnl).mono ?_
                    rintro e w8 ⟨A8, c8, rfl, HR8, HB8⟩
                    have HO8 := Lib.hid (HO7.out.step HB8.out)
                    generalize q.eraseIdx n = q2 at *
                    clear HO7 HR7 HB8 hw7
                    go_wp2_with fail
                    refine (len_m w8 w.heap.size g q2 K6 F HO8.out.is).mono ?_
                    rintro e w9 ⟨rfl, ⟨n9, rfl⟩⟩
                    have HO9 := Lib.hid (HO8.out.step (pw_below_drewN (Below.refl _ _) n9))
                    have HR9 := Lib.hid (HR8.out.below (pw_below_drewN (Below.refl _ _) n9))
                    generalize w8.drewN n9 = w9 at *
                    go_wp2
                    go_roundw
                    case rel => exact ⟨i + 1, q2, A8, c8, K6, F, by omega, by go_num, rfl, hlen, by have := HK.out; show K6 ≤ 5000 * (i + 1); omega, HO9.out, HR9.out⟩
                    case measure => simp [intOf]; omega
                · have d4 : (x.f0 == 4) = false := beq_eq_false_iff_ne.2 h4
                  clear h4
                  go_wp2_with fail
                  refine (len_m w4 w.heap.size g q K F HO4.out.is).mono ?_
                  rintro e w9 ⟨rfl, ⟨n9, rfl⟩⟩
                  have HO9 := Lib.hid (HO4.out.step (pw_below_drewN (Below.refl _ _) n9))
                  have HR9 := Lib.hid (HR4.out.below (pw_below_drewN (Below.refl _ _) n9))
                  generalize w4.drewN n9 = w9 at *
                  go_wp2
                  go_roundw
                  case rel => exact ⟨i + 1, q, A, c, K, F, by omega, by go_num, rfl, by omega, by have := HK.out; show K ≤ 5000 * (i + 1); omega, HO9.out, HR9.out⟩
                  case measure => simp [intOf]; omega
      · go_wp2_with (go_at_call 8; refine (heads_c _).mono ?_; rintro e w' ⟨rfl, hb⟩)
        go_ret
        exact ⟨rfl, below_step HO.out.below hb⟩
end Go.Proofs.Ytdeefnhpechaiaa.PileL
