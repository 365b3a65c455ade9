/- 'heads' of the laws of layer 7. -/
import Derived.Test.YtdeefnhpechaiaaPileI
namespace Go.Proofs.Ytdeefnhpechaiaa.PileJ
set_option linter.unusedVariables false
open Go.RowKit Go.Maps Go.Proofs.YtdeefnhpechaiaaW.PrintWords Go.Proofs.YtdeefnhpechaiaaW.PrintLast Go.Proofs.YtdeefnhpechaiaaW.PrintMore Go.Proofs.Ytdeefnhpechaiaa.PileP Go.Proofs.Ytdeefnhpechaiaa.PileC Go.Proofs.Ytdeefnhpechaiaa.PileD Go.Proofs.Ytdeefnhpechaiaa.PileE Go.Proofs.Ytdeefnhpechaiaa.PileF Go.Proofs.Ytdeefnhpechaiaa.PileG Go.Proofs.Ytdeefnhpechaiaa.PileH Go.Proofs.Ytdeefnhpechaiaa.PileI Go.Proofs.Ytdeefnhpechaiaa.Q
theorem cap (K : Nat) (h : K ≤ 60000) : Hid (K + 5000 < maxLen) := by
  show K + 5000 < maxLen
  unfold maxLen
  omega
/-- A pile of the call's own. -/
structure Own (w W : World) (g : Nat) (m : List It) (K : Nat) (F : Nat → Prop) : Prop where
  is : Is W w.heap.size g m K F
  foot : ∀ k, F k → w.heap.size ≤ k
  below : Below w.heap.size w W
theorem Own.turn {w W W1 : World} {g K K1 : Nat} {m m1 : List It} {F F1 : Nat → Prop} (h : Own w W g m K F) (h1 : Is W1 w.heap.size g m1 K1 F1) (ht : Turn W W1 F) (hF : ∀ k, F1 k → F k ∨ W.heap.size ≤ k) : Own w W1 g m1 K1 F1 :=
  ⟨h1, fun k hk => (hF k hk).elim (h.foot k) (fun e => Nat.le_trans h.below.size e), Turn.below h.below ht h.foot⟩
theorem Own.turn0 {w W W1 : World} {g K K1 : Nat} {m m1 : List It} {F : Nat → Prop} (h : Own w W g m K F) (h1 : Is W1 w.heap.size g m1 K1 F) (ht : Turn W W1 F) : Own w W1 g m1 K1 F := h.turn h1 ht (fun _ h => .inl h)
theorem Own.step {w W W1 : World} {g K : Nat} {m : List It} {F : Nat → Prop} (h : Own w W g m K F) (hb : Below W.heap.size W W1) : Own w W1 g m K F := ⟨h.is.below hb, h.foot, below_step h.below hb⟩
theorem new_o (w W : World) (hW : Below w.heap.size w W) : Calls Try.prog 9 #[] W fun e w' => ∃ (g : Nat) (F : Nat → Prop), e = .returned (.pointer (some ⟨g, 0, none⟩)) ∧ Hid (Own w w' g [] 0 F) ∧ Hid (∀ k, F k → W.heap.size ≤ k) ∧ Hid (Below W.heap.size W w') := by
  refine (new_m W w.heap.size hW.size).mono ?_
  rintro e w' ⟨g, F, rfl, h1, h2, h3⟩
  exact ⟨g, F, rfl, ⟨h1.out, fun k hk => Nat.le_trans hW.size (h2.out k hk), below_step hW h3.out⟩, h2, h3⟩
theorem push_o (w W : World) (g : Nat) (m : List It) (hl : m.length < 1000) (K : Nat) (hK : Hid (K + 5000 < maxLen)) (F : Nat → Prop) (h : Own w W g m K F) (key rank : Int) (hw : (Lit.int .i64 key).wf = true) :
    Calls Try.prog 10 #[.pointer (some ⟨g, 0, none⟩), .int .i64 key, .int .i64 rank] W fun e w' => e = .returned (.bool (find m key).isNone) ∧ ∃ (K' : Nat) (F' : Nat → Prop), Hid (Own w w' g (if (find m key).isNone = true then m ++ [(key, rank)] else m) K' F') ∧ K' ≤ K + 5000 ∧ Hid (Turn W w' F) ∧ Hid (∀ k, F' k → F k ∨ W.heap.size ≤ k) := by
  refine (push_m W w.heap.size g h.below.size m hl K hK F h.is key rank hw).mono ?_
  rintro e w' ⟨rfl, K', F', h1, h2, h3, h4⟩
  exact ⟨rfl, K', F', h.turn h1.out h3.out h4.out, h2, h3, h4⟩
theorem pop_o (w W : World) (g : Nat) (m : List It) (hl : m.length ≤ 1000) (K : Nat) (hK : Hid (K + 5000 < maxLen)) (F : Nat → Prop) (h : Own w W g m K F) :
    Calls Try.prog 11 #[.pointer (some ⟨g, 0, none⟩)] W fun e w' => e = .returned (.tuple #[.int .i64 (tp m).1, .int .i64 (tp m).2, .bool (decide (0 < m.length))]) ∧ ∃ (K' : Nat), Hid (Own w w' g (m.erase (tp m)) K' F) ∧ K' ≤ K + 5000 ∧ Hid (Turn W w' F) := by
  refine (pop_m W w.heap.size g m hl K hK F h.is).mono ?_
  rintro e w' ⟨rfl, K', h1, h2, h3⟩
  exact ⟨rfl, K', h.turn0 h1.out h3.out, h2, h3⟩
theorem move_o (w W : World) (g : Nat) (m : List It) (hl : m.length ≤ 1000) (K : Nat) (hK : Hid (K + 5000 < maxLen)) (F : Nat → Prop) (h : Own w W g m K F) (key rank : Int) (hw : (Lit.int .i64 key).wf = true) :
    Calls Try.prog 17 #[.pointer (some ⟨g, 0, none⟩), .int .i64 key, .int .i64 rank] W fun e w' => e = .returned (.bool (find m key).isSome) ∧ ∃ (K' : Nat), Hid (Own w w' g (if (find m key).isSome = true then but m key ++ [(key, rank)] else m) K' F) ∧ K' ≤ K + 5000 ∧ Hid (Turn W w' F) := by
  refine (move_m W w.heap.size g m hl K hK F h.is key rank hw).mono ?_
  rintro e w' ⟨rfl, K', h1, h2, h3⟩
  exact ⟨rfl, K', h.turn0 h1.out h3.out, h2, h3⟩
theorem drop_o (w W : World) (g : Nat) (m : List It) (hl : m.length ≤ 1000) (K : Nat) (hK : Hid (K + 5000 < maxLen)) (F : Nat → Prop) (h : Own w W g m K F) (key : Int) (hw : (Lit.int .i64 key).wf = true) :
    Calls Try.prog 18 #[.pointer (some ⟨g, 0, none⟩), .int .i64 key] W fun e w' => e = .returned (.bool (find m key).isSome) ∧ ∃ (K' : Nat), Hid (Own w w' g (but m key) K' F) ∧ K' ≤ K + 5000 ∧ Hid (Turn W w' F) := by
  refine (drop_m W w.heap.size g m hl K hK F h.is key hw).mono ?_
  rintro e w' ⟨rfl, K', h1, h2, h3⟩
  exact ⟨rfl, K', h.turn0 h1.out h3.out, h2, h3⟩
set_option maxHeartbeats 4000000 in
set_option maxRecDepth 100000 in
theorem heads_c (w : World) : Calls Try.prog 8 #[] w fun e w' => e = .returned (.bool true) ∧ Below w.heap.size w w' := by
  go_enter Try.func8, Try.ntmps8
  go_wp2_with fail
  refine (new_o w w (Below.refl _ _)).mono ?_
  rintro e w1 ⟨g, F1, rfl, H1, -, -⟩
  go_wp2_with fail
  refine (push_o w w1 g [] (by simp) 0 (cap 0 (by omega)) F1 H1.out 5 1 (by decide)).mono ?_
  rw [show (find [] 5).isNone = true from rfl, if_pos rfl]
  rintro e w2 ⟨rfl, K2, F2, H2, hK2, -, -⟩
  go_wp2_with fail
  refine (push_o w w2 g [(5, 1)] (by simp) K2 (cap K2 (by omega)) F2 H2.out 4 1 (by decide)).mono ?_
  rw [show (find [(5, 1)] 4).isNone = true from by decide, if_pos rfl]
  rintro e w3 ⟨rfl, K3, F3, H3, hK3, -, -⟩
  go_wp2_with fail
  refine (push_o w w3 g [(5, 1), (4, 1)] (by simp) K3 (cap K3 (by omega)) F3 H3.out 9 0 (by decide)).mono ?_
  rw [show (find [(5, 1), (4, 1)] 9).isNone = true from by decide, if_pos rfl]
  rintro e w4 ⟨rfl, K4, F4, H4, hK4, -, -⟩
  go_wp2_with fail
  refine (pop_o w w4 g [(5, 1), (4, 1), (9, 0)] (by simp) K4 (cap K4 (by omega)) F4 H4.out).mono ?_
  rw [show tp [(5, 1), (4, 1), (9, 0)] = (9, 0) from by decide, show [((5 : Int), (1 : Int)), (4, 1), (9, 0)].erase (9, 0) = [(5, 1), (4, 1)] from by decide, show decide (0 < [((5 : Int), (1 : Int)), (4, 1), (9, 0)].length) = true from rfl]
  rintro e w5 ⟨rfl, K5, H5, hK5, -⟩
  go_wp2_with fail
  refine (pop_o w w5 g [(5, 1), (4, 1)] (by simp) K5 (cap K5 (by omega)) F4 H5.out).mono ?_
  rw [show tp [(5, 1), (4, 1)] = (4, 1) from by decide, show [((5 : Int), (1 : Int)), (4, 1)].erase (4, 1) = [(5, 1)] from by decide, show decide (0 < [((5 : Int), (1 : Int)), (4, 1)].length) = true from rfl]
  rintro e w6 ⟨rfl, K6, H6, hK6, -⟩
  go_wp2_with fail
  refine (len_m w6 w.heap.size g [(5, 1)] K6 F4 H6.out.is).mono ?_
  rintro e w7 ⟨rfl, ⟨m7, rfl⟩⟩
  have H7 := Lib.hid (H6.out.step (pw_below_drewN (Below.refl _ _) m7))
  go_wp2_with fail
  refine (push_o w (w6.drewN m7) g [(5, 1)] (by simp) K6 (cap K6 (by omega)) F4 H7.out 5 0 (by decide)).mono ?_
  rw [show (find [(5, 1)] 5).isNone = false from by decide, if_neg (by simp)]
  rintro e w8 ⟨rfl, K8, F8, H8, hK8, -, -⟩
  go_wp2_with fail
  go_ret
  exact ⟨rfl, H8.out.below⟩
end Go.Proofs.Ytdeefnhpechaiaa.PileJ
