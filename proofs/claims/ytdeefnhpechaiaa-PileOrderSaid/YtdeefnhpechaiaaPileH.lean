/- Contracts of a pile's methods in one form each: Push, Move, Drop, Pop, Rank; heads; the nil pile; a pile that New did not make. -/
import Derived.Test.YtdeefnhpechaiaaPileG
namespace Go.Proofs.Ytdeefnhpechaiaa.PileH
set_option linter.unusedVariables false
open Go.RowKit Go.Maps Go.Proofs.YtdeefnhpechaiaaW.PrintWords Go.Proofs.YtdeefnhpechaiaaW.PrintLast Go.Proofs.YtdeefnhpechaiaaW.PrintMore Go.Proofs.Ytdeefnhpechaiaa.PileP Go.Proofs.Ytdeefnhpechaiaa.PileC Go.Proofs.Ytdeefnhpechaiaa.PileD Go.Proofs.Ytdeefnhpechaiaa.PileE Go.Proofs.Ytdeefnhpechaiaa.PileF Go.Proofs.Ytdeefnhpechaiaa.PileG Go.Proofs.Ytdeefnhpechaiaa.Q
/-- the place of a key in a row, and its rank -/
def find (l : List It) (key : Int) : Option It := l.find? fun x => decide (x.1 = key)
theorem find_some {look : Int → Option Nat} {l : List It} (hk : PileP.Keyed look l) {key : Int} {i : Nat} (h : look key = some i) : find l key = some (at_ l i) := by
  obtain ⟨hi, e⟩ := (hk key i).1 h
  unfold find
  cases hf : l.find? (fun x => decide (x.1 = key)) with
  | none =>
    have := List.find?_eq_none.1 hf (at_ l i) (at_mem hi)
    simp [e] at this
  | some y =>
    have h1 := List.find?_some hf
    have h2 := List.mem_of_find?_eq_some hf
    obtain ⟨j, hj, rfl⟩ := mem_at h2
    have h3 : (at_ l j).1 = key := by simpa using h1
    rw [hk.inj hj hi (by rw [h3, e])]
theorem find_none {look : Int → Option Nat} {l : List It} (hk : PileP.Keyed look l) {key : Int} (h : look key = none) : find l key = none := by
  unfold find
  rw [List.find?_eq_none]
  intro x hx
  have := (hk.none_iff key).1 h x hx
  simpa using this
/-- Rank. -/
theorem rank_g (W : World) (B g : Nat) (l : List It) (K : Nat) (F : Nat → Prop) (h : PileF.Good W B g l K F) (key : Int) (hw : (Lit.int .i64 key).wf = true) :
    Calls Try.prog 13 #[.pointer (some ⟨g, 0, none⟩), .int .i64 key] W fun e w' => e = .returned (.tuple #[.int .i64 (((find l key).map Prod.snd).getD 0), .bool (find l key).isSome]) ∧ Below W.heap.size W w' := by
  obtain ⟨look, hP, hk, -⟩ := h
  refine (rank_c W B g l K F look hP hk key hw).mono ?_
  rintro e w' ⟨rfl, hb⟩
  refine ⟨?_, hb⟩
  cases hl : look key with
  | none => rw [find_none hk hl]; rfl
  | some i => rw [find_some hk hl]; rfl
/-- Push. -/
theorem push_g (W : World) (B g : Nat) (hB : B ≤ W.heap.size) (l : List It) (hl : l.length < 1000) (K : Nat) (hK : Hid (K + 5000 < maxLen)) (F : Nat → Prop) (h : PileF.Good W B g l K F) (key rank : Int) (hw : (Lit.int .i64 key).wf = true) :
    Calls Try.prog 10 #[.pointer (some ⟨g, 0, none⟩), .int .i64 key, .int .i64 rank] W fun e w' => e = .returned (.bool (find l key).isNone) ∧ ∃ (l' : List It) (K' : Nat) (F' : Nat → Prop), Hid (PileF.Good w' B g l' K' F') ∧ Hid (l'.Perm (if (find l key).isNone = true then l ++ [(key, rank)] else l)) ∧ K' ≤ K + 5000 ∧ Hid (Turn W w' F) ∧ Hid (∀ k, F' k → F k ∨ W.heap.size ≤ k) := by
  obtain ⟨look, hP, hk, hh⟩ := h
  cases hn : look key with
  | none =>
    rw [find_none hk hn]
    refine (push_yes W B g hB l hl K hK F look hP hk hh key rank hw hn).mono ?_
    rintro e w' ⟨rfl, l', K', F', h1, h2, h3, h4, h5⟩
    exact ⟨rfl, l', K', F', h1, h2, h3, h4, h5⟩
  | some i =>
    rw [find_some hk hn]
    refine (push_no W B g l K F look hP key rank hw i hn).mono ?_
    rintro e w' ⟨rfl, hb⟩
    exact ⟨rfl, l, K, F, ⟨look, hP.below hb, hk, hh⟩, List.Perm.refl _, by omega, Turn.of_below hb F, fun k h => .inl h⟩
/-- all but a key -/
def but (l : List It) (key : Int) : List It := l.filter fun x => decide (x.1 ≠ key)
theorem erase_but {look : Int → Option Nat} {l : List It} (hk : PileP.Keyed look l) {key : Int} {i : Nat} (h : look key = some i) : l.eraseIdx i = but l key := by
  obtain ⟨hi, e⟩ := (hk key i).1 h
  have h3 : (l.take i ++ (at_ l i :: l.drop (i + 1))) = l := by
    rw [at_eq (List.getElem?_eq_getElem hi), ← List.drop_eq_getElem_cons hi, List.take_append_drop]
  have hne : ∀ j, j < l.length → j ≠ i → (at_ l j).1 ≠ key := fun j hj hji e2 => hji (hk.inj hj hi (by rw [e2, e]))
  have h1 : (l.take i).filter (fun x => decide (x.1 ≠ key)) = l.take i := by
    rw [List.filter_eq_self]
    intro x hx
    obtain ⟨j, hj⟩ := List.mem_iff_getElem?.1 hx
    rw [List.getElem?_take] at hj
    split at hj
    · rename_i hji
      have hjl : j < l.length := by omega
      have := at_eq hj
      rw [← this]
      simpa using hne j hjl (by omega)
    · cases hj
  have h2 : (l.drop (i + 1)).filter (fun x => decide (x.1 ≠ key)) = l.drop (i + 1) := by
    rw [List.filter_eq_self]
    intro x hx
    obtain ⟨j, hj⟩ := List.mem_iff_getElem?.1 hx
    rw [List.getElem?_drop] at hj
    have hjl := (List.getElem?_eq_some_iff.1 hj).1
    have := at_eq hj
    rw [← this]
    simpa using hne _ hjl (by omega)
  rw [List.eraseIdx_eq_take_drop_succ]
  unfold but
  conv => rhs; rw [← h3]
  rw [List.filter_append, List.filter_cons, h1, h2, if_neg (by simp [e])]
theorem but_none {look : Int → Option Nat} {l : List It} (hk : PileP.Keyed look l) {key : Int} (h : look key = none) : but l key = l := by
  unfold but
  rw [List.filter_eq_self]
  intro x hx
  have := (hk.none_iff key).1 h x hx
  simpa using this
theorem set_perm (l : List It) (i : Nat) (hi : i < l.length) (x : It) : (l.set i x).Perm (l.eraseIdx i ++ [x]) := by
  have h3 : l.set i x = l.take i ++ x :: l.drop (i + 1) := by rw [List.set_eq_take_append_cons_drop, if_pos hi]
  rw [h3, List.eraseIdx_eq_take_drop_succ, List.append_assoc]
  exact List.Perm.append_left _ (List.perm_append_comm (l₁ := [x]))
/-- Move. -/
theorem move_g (W : World) (B g : Nat) (l : List It) (hl : l.length ≤ 1000) (K : Nat) (hK : Hid (K + 5000 < maxLen)) (F : Nat → Prop) (h : PileF.Good W B g l K F) (key rank : Int) (hw : (Lit.int .i64 key).wf = true) :
    Calls Try.prog 17 #[.pointer (some ⟨g, 0, none⟩), .int .i64 key, .int .i64 rank] W fun e w' => e = .returned (.bool (find l key).isSome) ∧ ∃ (l' : List It) (K' : Nat), Hid (PileF.Good w' B g l' K' F) ∧ Hid (l'.Perm (if (find l key).isSome = true then but l key ++ [(key, rank)] else l)) ∧ K' ≤ K + 5000 ∧ Hid (Turn W w' F) := by
  obtain ⟨look, hP, hk, hh⟩ := h
  cases hn : look key with
  | none =>
    rw [find_none hk hn]
    refine (move_no W B g l K F look hP key rank hw hn).mono ?_
    rintro e w' ⟨rfl, hb⟩
    exact ⟨rfl, l, K, ⟨look, hP.below hb, hk, hh⟩, List.Perm.refl _, by omega, Turn.of_below hb F⟩
  | some i =>
    rw [find_some hk hn]
    refine (move_yes W B g l hl K hK F look hP hk hh key rank hw i hn).mono ?_
    rintro e w' ⟨rfl, l', K', h1, h2, h3, h4⟩
    refine ⟨rfl, l', K', h1, ?_, h3, h4⟩
    have := set_perm l i ((hk key i).1 hn).1 (key, rank)
    rw [erase_but hk hn] at this
    exact h2.out.trans this
/-- Drop. -/
theorem drop_g (W : World) (B g : Nat) (l : List It) (hl : l.length ≤ 1000) (K : Nat) (hK : Hid (K + 5000 < maxLen)) (F : Nat → Prop) (h : PileF.Good W B g l K F) (key : Int) (hw : (Lit.int .i64 key).wf = true) :
    Calls Try.prog 18 #[.pointer (some ⟨g, 0, none⟩), .int .i64 key] W fun e w' => e = .returned (.bool (find l key).isSome) ∧ ∃ (l' : List It) (K' : Nat), Hid (PileF.Good w' B g l' K' F) ∧ Hid (l'.Perm (but l key)) ∧ K' ≤ K + 5000 ∧ Hid (Turn W w' F) := by
  obtain ⟨look, hP, hk, hh⟩ := h
  cases hn : look key with
  | none =>
    rw [find_none hk hn]
    refine (drop_no W B g l K F look hP key hw hn).mono ?_
    rintro e w' ⟨rfl, hb⟩
    refine ⟨rfl, l, K, ⟨look, hP.below hb, hk, hh⟩, ?_, by omega, Turn.of_below hb F⟩
    rw [but_none hk hn]
    exact List.Perm.refl _
  | some i =>
    rw [find_some hk hn]
    refine (drop_yes W B g l hl K hK F look hP hk hh key hw i hn).mono ?_
    rintro e w' ⟨rfl, l', K', h1, h2, h3, h4⟩
    refine ⟨rfl, l', K', h1, ?_, h3, h4⟩
    rw [← erase_but hk hn]
    exact h2
theorem good_wf {W : World} {B g K : Nat} {l : List It} {F : Nat → Prop} (h : PileF.Good W B g l K F) : ∀ x ∈ l, (Lit.int .i64 x.1).wf = true := by
  obtain ⟨look, ⟨v, b, D, h1, h2, h3, h4, h5, h6, h7, h8⟩, -⟩ := h
  exact h7
/-- Pop. -/
theorem pop_g (W : World) (B g : Nat) (l : List It) (hl : l.length ≤ 1000) (K : Nat) (hK : Hid (K + 5000 < maxLen)) (F : Nat → Prop) (h : PileF.Good W B g l K F) :
    Calls Try.prog 11 #[.pointer (some ⟨g, 0, none⟩)] W fun e w' => e = .returned (.tuple #[.int .i64 (at_ l 0).1, .int .i64 (at_ l 0).2, .bool (decide (0 < l.length))]) ∧ ∃ (l' : List It) (K' : Nat), Hid (PileF.Good w' B g l' K' F) ∧ Hid (l'.Perm l.tail) ∧ K' ≤ K + 5000 ∧ Hid (Turn W w' F) := by
  have HG := Lib.hid h
  have HP := Lib.hid (peek_c W B g l K F h)
  by_cases h0 : 0 < l.length
  · have hd : decide (0 < l.length) = true := decide_eq_true h0
    have hwf := good_wf h (at_ l 0) (at_mem h0)
    obtain ⟨look, hI, hk, hh⟩ := h
    have hlk : look (at_ l 0).1 = some 0 := (hk _ 0).2 ⟨h0, rfl⟩
    have hft := find_some hk hlk
    have hte : but l (at_ l 0).1 = l.tail := by rw [← erase_but hk hlk]; cases l with | nil => rfl | cons x l => rfl
    have HD := fun w' (hb : Drawn0 W w') => drop_g w' B g l hl K hK F (HG.out.below hb.below) (at_ l 0).1 hwf
    rw [hft, hte] at HD
    have HD := Lib.hid HD
    rw [hd]
    rw [hd] at HP
    clear hI hk hh hlk hft hte hwf hd h0
    generalize at_ l 0 = x at *
    go_enter Try.func11, Try.ntmps11
    go_wp2_with fail
    refine (HP.out).mono ?_
    rintro e w1 ⟨rfl, hd1⟩
    have hD1 := HD.out w1 hd1
    obtain ⟨m1, rfl⟩ := hd1
    have HD1 := Lib.hid hD1
    clear hD1
    go_wp2_with fail
    refine (HD1.out).mono ?_
    rintro e w2 ⟨rfl, l', K', h1, h2, h3, h4⟩
    go_wp2_with fail
    go_ret3
    exact ⟨rfl, l', K', h1, h2, h3, (Turn.of_below (pw_below_drewN (Below.refl _ _) m1) F).trans h4.out (fun _ h => .inl h)⟩
  · have hd : decide (0 < l.length) = false := decide_eq_false h0
    obtain rfl : l = [] := List.eq_nil_of_length_eq_zero (by omega)
    rw [hd]
    rw [hd] at HP
    clear h h0 hd
    go_enter Try.func11, Try.ntmps11
    go_wp2_with fail
    refine (HP.out).mono ?_
    rintro e w1 ⟨rfl, ⟨m1, rfl⟩⟩
    go_wp2_with fail
    go_ret3
    exact ⟨rfl, [], K, HG.out.below (pw_below_drewN (Below.refl _ _) m1), List.Perm.refl _, by omega, Turn.of_below (pw_below_drewN (Below.refl _ _) m1) F⟩
end Go.Proofs.Ytdeefnhpechaiaa.PileH
