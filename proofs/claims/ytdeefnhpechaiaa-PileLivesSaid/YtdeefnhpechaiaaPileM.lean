/- The walk of the law PileMoves: a key that is moved has its new rank, and all others theirs. -/
import Derived.Test.YtdeefnhpechaiaaPileK
namespace Go.Proofs.Ytdeefnhpechaiaa.PileM
set_option linter.unusedVariables false
open Go.RowKit Go.Maps Go.Proofs.YtdeefnhpechaiaaW.PrintWords Go.Proofs.YtdeefnhpechaiaaW.PrintLast Go.Proofs.YtdeefnhpechaiaaW.PrintMore Go.Proofs.Ytdeefnhpechaiaa.PileP Go.Proofs.Ytdeefnhpechaiaa.PileC Go.Proofs.Ytdeefnhpechaiaa.PileD Go.Proofs.Ytdeefnhpechaiaa.PileE Go.Proofs.Ytdeefnhpechaiaa.PileF Go.Proofs.Ytdeefnhpechaiaa.PileG Go.Proofs.Ytdeefnhpechaiaa.PileH Go.Proofs.Ytdeefnhpechaiaa.PileI Go.Proofs.Ytdeefnhpechaiaa.PileJ Go.Proofs.Ytdeefnhpechaiaa.PileK Go.Proofs.Ytdeefnhpechaiaa.Q
theorem find_but_other {m : List It} (key other : Int) (r : Int) (h : other ≠ key) : find (but m key ++ [(key, r)]) other = find m other := by
  unfold find but
  rw [List.find?_append, List.find?_filter]
  have : [(key, r)].find? (fun x => decide (x.1 = other)) = none := by simp [Ne.symm h]
  rw [this, Option.or_none]
  congr 1
  funext x
  by_cases e : x.1 = other
  · simp [e, h]
  · simp [e]
theorem find_but_same {m : List It} (key r : Int) : find (but m key ++ [(key, r)]) key = some (key, r) := by
  unfold find but
  rw [List.find?_append]
  have : (m.filter fun x => decide (x.1 ≠ key)).find? (fun x => decide (x.1 = key)) = none := by
    rw [List.find?_eq_none]
    intro x hx
    have := (List.mem_filter.1 hx).2
    simpa using this
  rw [this]
  simp
theorem find_but_none {m : List It} (key : Int) : find (but m key) key = none := by
  unfold find but
  rw [List.find?_eq_none]
  intro x hx
  have := (List.mem_filter.1 hx).2
  simpa using this
theorem but_length {m : List It} (hu : Uniq m) (key : Int) {x : It} (h : find m key = some x) (r : Int) : (but m key ++ [(key, r)]).length = m.length := by
  rcases find_spec m key with ⟨y, e, hy, ek⟩ | ⟨e, _⟩
  · have hne : m ≠ [] := by rintro rfl; cases hy
    have : but m key = m.erase y := by
      unfold but
      rw [(uniq_nodup hu).erase_eq_filter]
      apply List.filter_congr
      intro z hz
      by_cases ez : z.1 = key
      · have := hu.inj hz hy (ez.trans ek.symm)
        simp [this, ek]
      · have : z ≠ y := fun e2 => ez (by rw [e2, ek])
        simp [ez, this]
    rw [this, List.length_append, List.length_singleton, List.length_erase_of_mem hy]
    have := List.length_pos_of_mem hy
    omega
  · rw [e] at h; cases h
theorem but_le (m : List It) (key : Int) : (but m key).length ≤ m.length := List.length_filter_le _ _
theorem capm (K : Nat) (h : K ≤ 600000) : Hid (K + 5000 < maxLen) := by
  show K + 5000 < maxLen
  unfold maxLen
  omega
theorem capm2 (K K5 : Nat) (h : K5 ≤ 600000) (h2 : K ≤ K5 + 5000) : Hid (K + 5000 < maxLen) := by
  show K + 5000 < maxLen
  unfold maxLen
  omega
set_option maxHeartbeats 8000000 in
set_option maxRecDepth 100000 in
theorem moves_walk (ops : List S28) (A : Option Addr) (c : Nat) (hc : ops.length ≤ c) (hmax : ops.length ≤ 9223372036854775807) (key rank other : Int) (hwk : (Lit.int .i64 key).wf = true) (hwo : (Lit.int .i64 other).wf = true) (w : World) (hC : Kd.C k28 w A ops.length ops) (hwf : ∀ x ∈ ops, (Lit.int .i64 x.f1).wf = true) :
    Calls Try.prog 6 #[.slice A ops.length c, .int .i64 key, .int .i64 rank, .int .i64 other] w fun e w' => e = .returned (.bool true) ∧ Below w.heap.size w w' := by
  have HC := Lib.hid hC
  have HW := Lib.hid hwf
  clear hC hwf
  by_cases h100 : ops.length > 100
  · go_enter Try.func6, Try.ntmps6
    go_wp2_with (go_at_call 8; refine (heads_c _).mono ?_; rintro e w' ⟨rfl, hb⟩)
    go_ret
    exact ⟨rfl, hb⟩
  · go_enter Try.func6, Try.ntmps6
    go_wp2_with fail
    refine (new_o w w (Below.refl _ _)).mono ?_
    rintro e w1 ⟨g, F1, rfl, H1, -, -⟩
    go_wp2_with fail
    go_loopw [10] (fun vi wr => ∃ (i : Nat) (m : List It) (K : Nat) (F : Nat → Prop), i ≤ ops.length ∧ vi = .int .i64 (i : Int) ∧ m.length ≤ i ∧ Hid (K ≤ 5000 * i) ∧ Hid (Own w wr g m K F)) (fun vi _ => ops.length - (intOf vi).toNat)
    case atStart => exact ⟨0, [], 0, F1, Nat.zero_le _, rfl, Nat.le_refl _, Nat.le_refl _, H1.out⟩
    case round =>
      obtain ⟨i, m, K, F, hi, rfl, hmi, HK, HO⟩ := hrel
      by_cases hlt : i < ops.length
      · obtain ⟨ad, x, rfl, hx, hcells⟩ := op_cells HC.out i hlt
        obtain ⟨hk1, hk2, hk3⟩ := hcells wr HO.out.below
        have hxw := HW.out x (List.mem_of_getElem? hx)
        have hcap := cap2 K i (by omega) HK.out
        clear hx hcells
        go_wp2
        go_still_tail 11, (by kernel_rfl)
        go_wp2_with fail
        refine (push_o w wr.drew g m (by omega) K hcap F ⟨HO.out.is, HO.out.foot, below_drew HO.out.below⟩ x.f1 x.f2 hxw).mono ?_
        have hlen : (if (find m x.f1).isNone = true then m ++ [(x.f1, x.f2)] else m).length ≤ i + 1 := by split <;> (try simp) <;> omega
        generalize (if (find m x.f1).isNone = true then m ++ [(x.f1, x.f2)] else m) = m2 at *
        generalize (find m x.f1).isNone = bq at *
        rintro e w2 ⟨rfl, K2, F2, H2, hK2, -, -⟩
        go_wp2
        go_roundw
        case rel => exact ⟨i + 1, m2, K2, F2, by omega, by go_num, hlen, by have := HK.out; show K2 ≤ 5000 * (i + 1); omega, H2.out⟩
        case measure => simp [intOf]; omega
      · have hml : m.length ≤ 100 := by omega
        have HKm : Hid (K ≤ 500000) := by have := HK.out; show K ≤ 500000; omega
        have Hu := Lib.hid HO.out.is.uniq
        clear hmi HK
        go_wp2_with fail
        refine (len_m wr w.heap.size g m K F HO.out.is).mono ?_
        rintro e w' ⟨rfl, ⟨m2, rfl⟩⟩
        have H2 := Lib.hid (HO.out.step (pw_below_drewN (Below.refl _ _) m2))
        go_wp2_with fail
        refine (rank_m (wr.drewN m2) w.heap.size g m K F H2.out.is other hwo).mono ?_
        rintro e w3 ⟨rfl, hb3⟩
        have H3 := Lib.hid (H2.out.step hb3)
        clear hb3
        go_wp2_with fail
        refine (rank_m w3 w.heap.size g m K F H3.out.is key hwk).mono ?_
        rintro e w4 ⟨rfl, hb4⟩
        have H4 := Lib.hid (H3.out.step hb4)
        clear hb4
        go_wp2_with fail
        refine (move_o w w4 g m (by omega) K (capm K (by have := HKm.out; omega)) F H4.out key rank hwk).mono ?_
        have HOth := Lib.hid (fun h : other ≠ key => find_but_other (m := m) key other rank h)
        have HSame := Lib.hid (find_but_same (m := m) key rank)
        cases hfk : find m key with
        | none =>
          rw [show (Option.isSome (none : Option It)) = false from rfl, if_neg (by simp)]
          rintro e w5 ⟨rfl, K5, H5, hK5, -⟩
          have HK5 : Hid (K5 ≤ 600000) := by have := HKm.out; show K5 ≤ 600000; omega
          have hfk2 := hfk
          go_wp2_with fail
          refine (len_m w5 w.heap.size g m K5 F H5.out.is).mono ?_
          rintro e w' ⟨rfl, ⟨m6, rfl⟩⟩
          have HP := Lib.hid (H5.out.step (pw_below_drewN (Below.refl _ _) m6))
          go_wp2_with fail
          refine (rank_m (w5.drewN m6) w.heap.size g m K5 F HP.out.is other hwo).mono ?_
          rintro e w6 ⟨rfl, hb6⟩
          have H6 := Lib.hid (HP.out.step hb6)
          clear hb6
          go_wp2_with fail
          refine (rank_m w6 w.heap.size g m K5 F H6.out.is key hwk).mono ?_
          rw [hfk]
          rintro e w7 ⟨rfl, hb7⟩
          have H7 := Lib.hid (H6.out.step hb7)
          clear hb7
          go_wp2_with fail
          all_goals (
            refine (drop_o w w7 g m (by omega) K5 (capm K5 HK5.out) F H7.out key hwk).mono ?_
            rw [hfk]
            rintro e w8 ⟨rfl, K8, H8, hK8, -⟩
            go_wp2_with fail
            refine (drop_o w w8 g (but m key) (by have := but_le m key; omega) K8 (capm2 K8 K5 HK5.out hK8) F H8.out key hwk).mono ?_
            rw [find_but_none]
            rintro e w9 ⟨rfl, K9, H9, hK9, -⟩
            go_wp2_with (go_at_call 8; refine (heads_c _).mono ?_; rintro e w' ⟨rfl, hb⟩)
            go_ret
            exact ⟨rfl, below_step H9.out.below hb⟩)
        | some y =>
          rw [show (Option.isSome (some y)) = true from rfl, if_pos rfl]
          have hlen2 := but_length Hu.out key hfk rank
          rintro e w5 ⟨rfl, K5, H5, hK5, -⟩
          have HK5 : Hid (K5 ≤ 600000) := by have := HKm.out; show K5 ≤ 600000; omega
          generalize but m key ++ [(key, rank)] = p at *
          go_wp2_with fail
          refine (len_m w5 w.heap.size g p K5 F H5.out.is).mono ?_
          rw [hlen2]
          rintro e w' ⟨rfl, ⟨m6, rfl⟩⟩
          have HP := Lib.hid (H5.out.step (pw_below_drewN (Below.refl _ _) m6))
          have hso : (other ≠ key → find p other = find m other) := HOth.out
          have hsk : find p key = some (key, rank) := HSame.out
          by_cases ho : other = key
          · subst ho
            go_wp2_with fail
            refine (rank_m (w5.drewN m6) w.heap.size g p K5 F HP.out.is other hwo).mono ?_
            rw [hsk]
            rintro e w6 ⟨rfl, hb6⟩
            have H6 := Lib.hid (HP.out.step hb6)
            clear hb6
            go_wp2_with fail
            refine (rank_m w6 w.heap.size g p K5 F H6.out.is other hwk).mono ?_
            rw [hsk]
            rintro e w7 ⟨rfl, hb7⟩
            have H7 := Lib.hid (H6.out.step hb7)
            clear hb7
            go_wp2_with fail
            all_goals (
              refine (drop_o w w7 g p (by omega) K5 (capm K5 HK5.out) F H7.out other hwk).mono ?_
              rw [hsk]
              rintro e w8 ⟨rfl, K8, H8, hK8, -⟩
              go_wp2_with fail
              refine (drop_o w w8 g (but p other) (by have := but_le p other; omega) K8 (capm2 K8 K5 HK5.out hK8) F H8.out other hwk).mono ?_
              rw [find_but_none]
              rintro e w9 ⟨rfl, K9, H9, hK9, -⟩
              go_wp2_with (go_at_call 8; refine (heads_c _).mono ?_; rintro e w' ⟨rfl, hb⟩)
              go_ret
              exact ⟨rfl, below_step H9.out.below hb⟩)
          · have hon : (other != key) = true := bne_iff_ne.2 ho
            have hso := hso ho
            go_wp2_with fail
            refine (rank_m (w5.drewN m6) w.heap.size g p K5 F HP.out.is other hwo).mono ?_
            rw [hso]
            rintro e w6 ⟨rfl, hb6⟩
            have H6 := Lib.hid (HP.out.step hb6)
            clear hb6
            go_wp2_with fail
            refine (rank_m w6 w.heap.size g p K5 F H6.out.is key hwk).mono ?_
            rw [hsk]
            rintro e w7 ⟨rfl, hb7⟩
            have H7 := Lib.hid (H6.out.step hb7)
            clear hb7
            go_wp2_with fail
            all_goals (
              refine (drop_o w w7 g p (by omega) K5 (capm K5 HK5.out) F H7.out key hwk).mono ?_
              rw [hsk]
              rintro e w8 ⟨rfl, K8, H8, hK8, -⟩
              go_wp2_with fail
              refine (drop_o w w8 g (but p key) (by have := but_le p key; omega) K8 (capm2 K8 K5 HK5.out hK8) F H8.out key hwk).mono ?_
              rw [find_but_none]
              rintro e w9 ⟨rfl, K9, H9, hK9, -⟩
              go_wp2_with (go_at_call 8; refine (heads_c _).mono ?_; rintro e w' ⟨rfl, hb⟩)
              go_ret
              exact ⟨rfl, below_step H9.out.below hb⟩)
end Go.Proofs.Ytdeefnhpechaiaa.PileM
