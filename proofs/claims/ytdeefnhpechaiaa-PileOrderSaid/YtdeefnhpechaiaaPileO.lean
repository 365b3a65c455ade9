/- The walk of the law PileOrder: in which order keys are pushed is of no matter. -/
import Derived.Test.YtdeefnhpechaiaaPileM
namespace Go.Proofs.Ytdeefnhpechaiaa.PileO
set_option linter.unusedVariables false
open Go.RowKit Go.Maps Go.Proofs.YtdeefnhpechaiaaW.PrintWords Go.Proofs.YtdeefnhpechaiaaW.PrintLast Go.Proofs.YtdeefnhpechaiaaW.PrintMore Go.Proofs.Ytdeefnhpechaiaa.PileP Go.Proofs.Ytdeefnhpechaiaa.PileC Go.Proofs.Ytdeefnhpechaiaa.PileD Go.Proofs.Ytdeefnhpechaiaa.PileE Go.Proofs.Ytdeefnhpechaiaa.PileF Go.Proofs.Ytdeefnhpechaiaa.PileG Go.Proofs.Ytdeefnhpechaiaa.PileH Go.Proofs.Ytdeefnhpechaiaa.PileI Go.Proofs.Ytdeefnhpechaiaa.PileJ Go.Proofs.Ytdeefnhpechaiaa.PileK Go.Proofs.Ytdeefnhpechaiaa.PileM Go.Proofs.Ytdeefnhpechaiaa.Q
/-- Two piles of the call's own, that share nothing. -/
structure Two (w W : World) (g1 : Nat) (m1 : List It) (K1 : Nat) (F1 : Nat → Prop) (g2 : Nat) (m2 : List It) (K2 : Nat) (F2 : Nat → Prop) : Prop where
  a : Own w W g1 m1 K1 F1
  b : Own w W g2 m2 K2 F2
  dis : ∀ k, F1 k → ¬ F2 k
theorem Two.swap {w W : World} {g1 g2 K1 K2 : Nat} {m1 m2 : List It} {F1 F2 : Nat → Prop} (h : Two w W g1 m1 K1 F1 g2 m2 K2 F2) : Two w W g2 m2 K2 F2 g1 m1 K1 F1 := ⟨h.b, h.a, fun k h2 h1 => h.dis k h1 h2⟩
theorem Two.turn {w W W1 : World} {g1 g2 K1 K2 K : Nat} {m1 m2 m : List It} {F1 F2 F : Nat → Prop} (h : Two w W g1 m1 K1 F1 g2 m2 K2 F2) (h1 : Own w W1 g1 m K F) (ht : Turn W W1 F1) (hF : ∀ k, F k → F1 k ∨ W.heap.size ≤ k) : Two w W1 g1 m K F g2 m2 K2 F2 :=
  ⟨h1, ⟨h.b.is.other ht (fun k h2 h1 => h.dis k h1 h2), h.b.foot, h1.below⟩, fun k hk h2 => (hF k hk).elim (fun e => h.dis k e h2) (fun e => by have := (h.b.is.foot k h2).2; omega)⟩
theorem Two.turn0 {w W W1 : World} {g1 g2 K1 K2 K : Nat} {m1 m2 m : List It} {F1 F2 : Nat → Prop} (h : Two w W g1 m1 K1 F1 g2 m2 K2 F2) (h1 : Own w W1 g1 m K F1) (ht : Turn W W1 F1) : Two w W1 g1 m K F1 g2 m2 K2 F2 := h.turn h1 ht (fun _ h => .inl h)
theorem Two.step {w W W1 : World} {g1 g2 K1 K2 : Nat} {m1 m2 : List It} {F1 F2 : Nat → Prop} (h : Two w W g1 m1 K1 F1 g2 m2 K2 F2) (hb : Below W.heap.size W W1) : Two w W1 g1 m1 K1 F1 g2 m2 K2 F2 := ⟨h.a.step hb, h.b.step hb, h.dis⟩
theorem Two.drew {w W : World} {g1 g2 K1 K2 : Nat} {m1 m2 : List It} {F1 F2 : Nat → Prop} (h : Two w W g1 m1 K1 F1 g2 m2 K2 F2) : Two w W.drew g1 m1 K1 F1 g2 m2 K2 F2 :=
  ⟨⟨h.a.is, h.a.foot, below_drew h.a.below⟩, ⟨h.b.is, h.b.foot, below_drew h.b.below⟩, h.dis⟩
/-- all keys come from the first i operations -/
def From (ops : List S28) (i : Nat) (m : List It) : Prop := ∀ x ∈ m, ∃ j o, j < i ∧ ops[j]? = some o ∧ o.f1 = x.1
theorem From.next {ops : List S28} {i : Nat} {m : List It} (h : From ops i m) : From ops (i + 1) m := by
  intro x hx
  obtain ⟨j, o, h1, h2, h3⟩ := h x hx
  exact ⟨j, o, by omega, h2, h3⟩
theorem From.push {ops : List S28} {i : Nat} {m : List It} (h : From ops i m) {x : S28} (hx : ops[i]? = some x) (r : Int) (b : Bool) : From ops (i + 1) (if b = true then m ++ [(x.f1, r)] else m) := by
  split
  · intro y hy
    rcases List.mem_append.1 hy with hy | hy
    · exact h.next y hy
    · obtain rfl := List.mem_singleton.1 hy
      exact ⟨i, x, by omega, hx, rfl⟩
  · exact h.next
/-- m2 has those items of m whose keys are in the operations from i on, and no others but of m -/
def Part (ops : List S28) (i : Nat) (m m2 : List It) : Prop := (∀ x ∈ m2, x ∈ m) ∧ ∀ j o, i ≤ j → ops[j]? = some o → ∀ x ∈ m, x.1 = o.f1 → x ∈ m2
theorem Part.none {ops : List S28} {i : Nat} {m m2 : List It} (h : Part ops (i + 1) m m2) {x : S28} (hx : ops[i]? = some x) (hf : find m x.f1 = none) : Part ops i m m2 := by
  refine ⟨h.1, fun j o hj ho y hy e => ?_⟩
  by_cases hji : j = i
  · subst hji
    rw [hx] at ho
    injection ho with ho
    subst ho
    rcases find_spec m x.f1 with ⟨z, e2, _⟩ | ⟨_, hn⟩
    · rw [hf] at e2; cases e2
    · exact absurd e (hn y hy)
  · exact h.2 j o (by omega) ho y hy e
theorem Part.some {ops : List S28} {i : Nat} {m m2 : List It} (h : Part ops (i + 1) m m2) (hu : Uniq m) {x : S28} (hx : ops[i]? = some x) {y : It} (hf : find m x.f1 = some y) : Part ops i m (if (find m2 x.f1).isNone = true then m2 ++ [(x.f1, y.2)] else m2) := by
  rcases find_spec m x.f1 with ⟨z, e2, hz, hk⟩ | ⟨e2, _⟩
  · rw [hf] at e2
    injection e2 with e2
    subst e2
    have hy : (x.f1, y.2) = y := by rw [← hk]
    rw [hy]
    have hin : y ∈ (if (find m2 x.f1).isNone = true then m2 ++ [y] else m2) := by
      split
      · simp
      · rename_i hn
        rcases find_spec m2 x.f1 with ⟨z, e3, hz3, hk3⟩ | ⟨e3, _⟩
        · have := hu.inj (h.1 z hz3) hz (hk3.trans hk.symm)
          rw [← this]; exact hz3
        · rw [e3] at hn; exact absurd rfl hn
    refine ⟨fun a ha => ?_, fun j o hj ho a ha e => ?_⟩
    · split at ha
      · rcases List.mem_append.1 ha with ha | ha
        · exact h.1 a ha
        · obtain rfl := List.mem_singleton.1 ha
          exact hz
      · exact h.1 a ha
    · by_cases hji : j = i
      · subst hji
        rw [hx] at ho
        injection ho with ho
        subst ho
        have := hu.inj ha hz (e.trans hk.symm)
        rw [this]; exact hin
      · have := h.2 j o (by omega) ho a ha e
        split
        · exact List.mem_append_left _ this
        · exact this
  · rw [hf] at e2; cases e2
theorem Part.perm {ops : List S28} {m m2 : List It} (h : Part ops 0 m m2) (hF : From ops ops.length m) (hu : Uniq m) (hu2 : Uniq m2) : m2.Perm m := by
  refine (List.perm_ext_iff_of_nodup (uniq_nodup hu2) (uniq_nodup hu)).2 fun a => ⟨h.1 a, fun ha => ?_⟩
  obtain ⟨j, o, _, h2, h3⟩ := hF a ha
  exact h.2 j o (Nat.zero_le _) h2 a ha h3.symm
set_option maxHeartbeats 8000000 in
set_option maxRecDepth 100000 in
theorem order_walk (ops : List S28) (A : Option Addr) (c : Nat) (hc : ops.length ≤ c) (hmax : ops.length ≤ 9223372036854775807) (w : World) (hC : Kd.C k28 w A ops.length ops) (hwf : ∀ x ∈ ops, (Lit.int .i64 x.f1).wf = true) :
    Calls Try.prog 4 #[.slice A ops.length c] w fun e w' => e = .returned (.bool true) ∧ Below w.heap.size w w' := by
  have HC := Lib.hid hC
  have HW := Lib.hid hwf
  clear hC hwf
  by_cases h100 : ops.length > 100
  · go_enter Try.func4, Try.ntmps4
    go_wp2_with (go_at_call 8; refine (heads_c _).mono ?_; rintro e w' ⟨rfl, hb⟩)
    go_ret
    exact ⟨rfl, hb⟩
  · go_enter Try.func4, Try.ntmps4
    go_wp2_with fail
    refine (new_o w w (Below.refl _ _)).mono ?_
    rintro e w1 ⟨g, F1, rfl, H1, -, -⟩
    go_wp2_with fail
    refine (new_o w w1 H1.out.below).mono ?_
    rintro e w2 ⟨g2, F2, rfl, H2, hF2, hb2⟩
    have HT2 : Hid (Two w w2 g [] 0 F1 g2 [] 0 F2) := ⟨H1.out.step hb2.out, H2.out, fun k h1 h2 => by have := hF2.out k h2; have := (H1.out.is.foot k h1).2; omega⟩
    clear H1 H2 hF2 hb2
    go_wp2_with fail
    go_loopw [5] (fun vi wr => ∃ (i : Nat) (m : List It) (K : Nat) (F : Nat → Prop), i ≤ ops.length ∧ vi = .int .i64 (i : Int) ∧ m.length ≤ i ∧ Hid (K ≤ 5000 * i) ∧ Hid (From ops i m) ∧ Hid (Two w wr g m K F g2 [] 0 F2)) (fun vi _ => ops.length - (intOf vi).toNat)
    case atStart => exact ⟨0, [], 0, F1, Nat.zero_le _, rfl, Nat.le_refl _, Nat.le_refl _, (fun x hx => by cases hx), HT2.out⟩
    case round =>
      obtain ⟨i, m, K, F, hi, rfl, hmi, HK, HFr, HO⟩ := hrel
      by_cases hlt : i < ops.length
      · obtain ⟨ad, x, rfl, hx, hcells⟩ := op_cells HC.out i hlt
        obtain ⟨hk1, hk2, hk3⟩ := hcells wr HO.out.a.below
        have hxw := HW.out x (List.mem_of_getElem? hx)
        have hcap := cap2 K i (by omega) HK.out
        have HX := Lib.hid hx
        clear hx hcells
        go_wp2
        go_still_tail 11, (by kernel_rfl)
        go_wp2_with fail
        refine (push_o w wr.drew g m (by omega) K hcap F HO.out.drew.a x.f1 x.f2 hxw).mono ?_
        have hlen : (if (find m x.f1).isNone = true then m ++ [(x.f1, x.f2)] else m).length ≤ i + 1 := by split <;> (try simp) <;> omega
        have HFr2 := Lib.hid (HFr.out.push HX.out x.f2 (find m x.f1).isNone)
        generalize (if (find m x.f1).isNone = true then m ++ [(x.f1, x.f2)] else m) = m2 at *
        generalize (find m x.f1).isNone = bq at *
        rintro e w2 ⟨rfl, K2, F2, H2, hK2, hT, hF⟩
        have HO2 := Lib.hid (HO.out.drew.turn H2.out hT.out hF.out)
        clear H2 hT hF
        go_wp2
        go_roundw
        case rel => exact ⟨i + 1, m2, K2, F2, by omega, by go_num, hlen, by have := HK.out; show K2 ≤ 5000 * (i + 1); omega, HFr2.out, HO2.out⟩
        case measure => simp [intOf]; omega
      · obtain rfl : i = ops.length := by omega
        have Hu := Lib.hid HO.out.a.is.uniq
        have hml : m.length ≤ 100 := by omega
        have HKm : Hid (K ≤ 5000 * 100) := by have := HK.out; show K ≤ 5000 * 100; omega
        clear hmi HK hlt hi HT2
        go_wp2_with fail
        go_loopw [6] (fun vi wr => ∃ (i : Nat) (z : Int) (m2 : List It) (K2 : Nat) (F3 : Nat → Prop), i ≤ ops.length ∧ z + 1 = (i : Int) ∧ vi = .int .i64 z ∧ m2.length + i ≤ ops.length ∧ Hid (K2 + 5000 * i ≤ 5000 * ops.length) ∧ Hid (Part ops i m m2) ∧ Hid (Two w wr g m K F g2 m2 K2 F3)) (fun vi _ => (intOf vi + 1).toNat)
        case atStart => exact ⟨ops.length, (ops.length : Int) - 1, [], 0, F2, Nat.le_refl _, by omega, by go_num, by simp, by show 0 + 5000 * ops.length ≤ 5000 * ops.length; omega, ⟨fun x hx => (by cases hx), fun j o hj ho x hx e => by have := (List.getElem?_eq_some_iff.1 ho).1; omega⟩, HO.out⟩
        case round =>
          obtain ⟨i, z, m2, K2, F3, hi, hz, rfl, hmi, HK2, HP, HQ⟩ := hrel
          clear HO
          by_cases hlt : 0 < i
          · obtain ⟨j, rfl⟩ : ∃ j, i = j + 1 := ⟨i - 1, by omega⟩
            obtain rfl : z = (j : Int) := by omega
            obtain ⟨ad, x, rfl, hx, hcells⟩ := op_cells HC.out j (by omega)
            obtain ⟨hk1, hk2, hk3⟩ := hcells wr HQ.out.a.below
            have hxw := HW.out x (List.mem_of_getElem? hx)
            have hcap := cap2 K2 100 (by omega) (by have := HK2.out; omega)
            have HX := Lib.hid hx
            have Hcells := Lib.hid hcells
            clear hx hcells
            go_wp2_with fail
            refine (rank_m wr w.heap.size g m K F HQ.out.a.is x.f1 hxw).mono ?_
            cases hf : find m x.f1 with
            | none =>
              rw [show ((none : Option It).map Prod.snd).getD 0 = 0 from rfl, show (none : Option It).isSome = false from rfl]
              rintro e w3 ⟨rfl, hb3⟩
              have HP2 := Lib.hid (HP.out.none HX.out hf)
              have HQ2 := Lib.hid (HQ.out.step hb3)
              clear hb3 hf
              go_wp2
              go_roundw
              case rel => exact ⟨j, (j : Int) - 1, m2, K2, F3, by omega, by omega, by go_num, by omega, by have := HK2.out; show K2 + 5000 * j ≤ 5000 * ops.length; omega, HP2.out, HQ2.out⟩
              case measure => simp [intOf]
            | some y =>
              rw [show ((some y).map Prod.snd).getD 0 = y.2 from rfl, show (some y).isSome = true from rfl]
              rintro e w3 ⟨rfl, hb3⟩
              have HP2 := Lib.hid (HP.out.some Hu.out HX.out hf)
              have HQ2 := Lib.hid (HQ.out.step hb3)
              obtain ⟨hl1, hl2, hl3⟩ := Hcells.out w3 HQ2.out.a.below
              clear hb3 hf hk1 hk2 hk3
              go_wp2_with fail
              refine (push_o w w3 g2 m2 (by omega) K2 hcap F3 HQ2.out.b x.f1 y.2 hxw).mono ?_
              have hlen : (if (find m2 x.f1).isNone = true then m2 ++ [(x.f1, y.2)] else m2).length ≤ m2.length + 1 := by split <;> (try simp) <;> omega
              generalize (if (find m2 x.f1).isNone = true then m2 ++ [(x.f1, y.2)] else m2) = m3 at *
              generalize (find m2 x.f1).isNone = bq at *
              rintro e w4 ⟨rfl, K4, F4, H4, hK4, hT, hF⟩
              have HQ4 := Lib.hid (HQ2.out.swap.turn H4.out hT.out hF.out).swap
              clear H4 hT hF
              go_wp2
              go_roundw
              case rel => exact ⟨j, (j : Int) - 1, m3, K4, F4, by omega, by omega, by go_num, by omega, by have := HK2.out; show K4 + 5000 * j ≤ 5000 * ops.length; omega, HP2.out, HQ4.out⟩
              case measure => simp [intOf]
          · obtain rfl : i = 0 := by omega
            obtain rfl : z = -1 := by omega
            have hp := HP.out.perm HFr.out Hu.out HQ.out.b.is.uniq
            have HZ : Hid (Two w wr g m K F g2 m K2 F3) := ⟨HQ.out.a, ⟨HQ.out.b.is.mono hp, HQ.out.b.foot, HQ.out.b.below⟩, HQ.out.dis⟩
            have HK3 : Hid (K2 ≤ 5000 * 100) := by have := HK2.out; show K2 ≤ 5000 * 100; omega
            clear HP HFr Hu hp HQ HK2 hmi hz hi hlt
            go_wp2_with fail
            go_loopw [9] (fun vi wr => ∃ (j : Nat) (q : List It) (Ka Kb : Nat), j ≤ ops.length + 1 ∧ vi = .int .i64 (j : Int) ∧ q.length ≤ 100 ∧ Hid (Ka ≤ 5000 * (100 + j)) ∧ Hid (Kb ≤ 5000 * (100 + j)) ∧ Hid (Two w wr g q Ka F g2 q Kb F3)) (fun vi _ => ops.length + 1 - (intOf vi).toNat)
            case atStart => exact ⟨0, m, K, K2, by omega, rfl, hml, by have := HKm.out; show K ≤ 5000 * (100 + 0); omega, by have := HK3.out; show K2 ≤ 5000 * (100 + 0); omega, HZ.out⟩
            case round =>
              obtain ⟨j, q, Ka, Kb, hj, rfl, hq, HKa, HKb, HR⟩ := hrel
              clear HZ HK3 HKm
              by_cases hjl : j ≤ ops.length
              · have hjz : (j : Int) ≤ (ops.length : Int) := by omega
                have hca := cap2 Ka (100 + j) (by omega) HKa.out
                have hcb := cap2 Kb (100 + j) (by omega) HKb.out
                have hel : (q.erase (tp q)).length ≤ 100 := Nat.le_trans List.length_erase_le hq
                go_wp2_with fail
                refine (pop_o w wr g q (by omega) Ka hca F HR.out.a).mono ?_
                rintro e w4 ⟨rfl, K4, H4, hK4, hT4⟩
                have HR4 := Lib.hid (HR.out.turn0 H4.out hT4.out)
                clear H4 hT4
                go_wp2_with fail
                refine (pop_o w w4 g2 q (by omega) Kb hcb F3 HR4.out.b).mono ?_
                rintro e w5 ⟨rfl, K5, H5, hK5, hT5⟩
                have HR5 := Lib.hid (HR4.out.swap.turn0 H5.out hT5.out).swap
                clear H5 hT5
                generalize q.erase (tp q) = q2 at *
                generalize tp q = t at *
                generalize decide (0 < q.length) = dq at *
                go_wp2
                go_roundw
                case rel => exact ⟨j + 1, q2, K4, K5, by omega, by go_num, hel, by have := HKa.out; show K4 ≤ 5000 * (100 + (j + 1)); omega, by have := HKb.out; show K5 ≤ 5000 * (100 + (j + 1)); omega, HR5.out⟩
                case measure => simp [intOf]; omega
              · have hjz : ¬ (j : Int) ≤ (ops.length : Int) := by omega
                go_wp2_with (go_at_call 8; refine (heads_c _).mono ?_; rintro e w' ⟨rfl, hb⟩)
                go_ret
                exact ⟨rfl, below_step HR.out.a.below hb⟩
end Go.Proofs.Ytdeefnhpechaiaa.PileO
