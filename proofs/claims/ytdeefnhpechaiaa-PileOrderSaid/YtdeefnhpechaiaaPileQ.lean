/- Plain facts on heaps, continued: a key is taken out. -/
import Derived.Test.YtdeefnhpechaiaaPileP
namespace Go.Proofs.Ytdeefnhpechaiaa.PileP
set_option linter.unusedVariables false
theorem at_take (l : List It) (n j : Nat) (h : j < n) : at_ (l.take n) j = at_ l j := by
  unfold at_
  rw [List.getElem?_take, if_pos h]
theorem Heap.take {l : List It} (h : Heap l) (n : Nat) : Heap (l.take n) := by
  intro j h0 hj
  rw [List.length_take] at hj
  rw [at_take _ _ _ (by omega), at_take _ _ _ (by omega)]
  exact h j h0 (by omega)
/-- What is left when place i is taken out and the last one put there. -/
def out (l : List It) (i : Nat) : List It := if i < l.length - 1 then (l.take (l.length - 1)).set i (at_ l (l.length - 1)) else l.take (l.length - 1)
theorem out_length (l : List It) (i : Nat) : (out l i).length = l.length - 1 := by
  unfold out
  split <;> simp
theorem out_perm (l : List It) (i : Nat) (hi : i < l.length) : (out l i).Perm (l.eraseIdx i) := by
  have hlast : l.take (l.length - 1) ++ [at_ l (l.length - 1)] = l := by
    have := List.take_succ_eq_append_getElem (l := l) (i := l.length - 1) (by omega)
    rw [show l.length - 1 + 1 = l.length from by omega, List.take_length] at this
    rw [at_eq (List.getElem?_eq_getElem (by omega : l.length - 1 < l.length))]
    exact this.symm
  have key : (out l i ++ [at_ l i]).Perm l := by
    unfold out
    split
    · rename_i h
      have e : (l.take (l.length - 1)).set i (at_ l (l.length - 1)) ++ [at_ l i] = swap l i (l.length - 1) := by
        unfold swap
        conv => rhs; rw [← hlast]
        have h1 : at_ (l.take (l.length - 1) ++ [at_ l (l.length - 1)]) (l.length - 1) = at_ l (l.length - 1) := by rw [hlast]
        have h2 : at_ (l.take (l.length - 1) ++ [at_ l (l.length - 1)]) i = at_ l i := by rw [hlast]
        have hlen : (l.take (l.length - 1) ++ [at_ l (l.length - 1)]).length - 1 = l.length - 1 := by rw [hlast]
        rw [hlen, h1, h2, List.set_append_left _ _ (by rw [List.length_take]; omega)]
        have h3 : l.length - 1 = ((l.take (l.length - 1)).set i (at_ l (l.length - 1))).length := by simp
        conv => rhs; rw [h3]
        rw [List.set_append_right _ _ (by simp)]
        simp
      rw [e]
      exact swap_perm l i _ hi (by omega)
    · rename_i h
      rw [show i = l.length - 1 from by omega, hlast]
  have h2 : (l.eraseIdx i ++ [at_ l i]).Perm l := by
    have h3 : (l.take i ++ (at_ l i :: l.drop (i + 1))) = l := by
      rw [at_eq (List.getElem?_eq_getElem hi), ← List.drop_eq_getElem_cons hi, List.take_append_drop]
    rw [List.eraseIdx_eq_take_drop_succ]
    conv => rhs; rw [← h3]
    rw [List.append_assoc]
    exact List.Perm.append_left _ List.perm_append_comm
  exact (List.perm_append_right_iff _).1 (key.trans h2.symm)
theorem Keyed.out {look : Int → Option Nat} {l : List It} (h : Keyed look l) {key : Int} {i : Nat} (hk : look key = some i) :
    Keyed (if i < l.length - 1 then upd (upd look key none) (at_ l (l.length - 1)).1 (some i) else upd look key none) (PileP.out l i) := by
  obtain ⟨hi, e⟩ := (h key i).1 hk
  intro k m
  rw [out_length]
  by_cases hlt : i < l.length - 1
  · have hout : PileP.out l i = (l.take (l.length - 1)).set i (at_ l (l.length - 1)) := if_pos hlt
    rw [if_pos hlt, hout]
    have hat : ∀ m, m < l.length - 1 → at_ ((l.take (l.length - 1)).set i (at_ l (l.length - 1))) m = if i = m then at_ l (l.length - 1) else at_ l m := fun m hm => by
      rw [at_set _ _ _ _ (by rw [List.length_take]; omega), at_take _ _ _ hm]
    have hd : (at_ l (l.length - 1)).1 ≠ key := fun e2 => by
      have := h.inj (i := i) (j := l.length - 1) hi (by omega) (by rw [e, e2])
      omega
    unfold upd
    by_cases h1 : k = (at_ l (l.length - 1)).1
    · rw [if_pos h1]
      constructor
      · intro e2
        injection e2 with e2
        subst e2
        refine ⟨hlt, ?_⟩
        rw [hat _ hlt, if_pos rfl, h1]
      · rintro ⟨hm, e2⟩
        rw [hat m hm] at e2
        by_cases him : i = m
        · rw [him]
        · rw [if_neg him, h1] at e2
          have := h.inj (i := m) (j := l.length - 1) (by omega) (by omega) e2
          omega
    · rw [if_neg h1]
      by_cases h2 : k = key
      · rw [if_pos h2]
        constructor
        · intro e2; cases e2
        · rintro ⟨hm, e2⟩
          rw [hat m hm] at e2
          by_cases him : i = m
          · rw [if_pos him] at e2
            exact absurd e2.symm h1
          · rw [if_neg him, h2] at e2
            exact absurd (h.inj (i := i) (j := m) hi (by omega) (by rw [e, e2])) him
      · rw [if_neg h2, h k m]
        constructor
        · rintro ⟨hm, e2⟩
          have hml : m ≠ l.length - 1 := by
            rintro rfl
            exact h1 e2.symm
          refine ⟨by omega, ?_⟩
          rw [hat m (by omega), if_neg ?_]
          · exact e2
          · rintro rfl
            exact h2 (e2.symm.trans e)
        · rintro ⟨hm, e2⟩
          refine ⟨by omega, ?_⟩
          rw [hat m hm] at e2
          by_cases him : i = m
          · rw [if_pos him] at e2
            exact absurd e2.symm h1
          · rw [if_neg him] at e2
            exact e2
  · have hil : i = l.length - 1 := by omega
    have hout : PileP.out l i = l.take (l.length - 1) := if_neg hlt
    rw [if_neg hlt, hout]
    unfold upd
    by_cases h2 : k = key
    · rw [if_pos h2]
      constructor
      · intro e2; cases e2
      · rintro ⟨hm, e2⟩
        rw [at_take _ _ _ hm, h2] at e2
        have := h.inj (i := i) (j := m) hi (by omega) (by rw [e, e2])
        omega
    · rw [if_neg h2, h k m]
      constructor
      · rintro ⟨hm, e2⟩
        have hml : m ≠ l.length - 1 := by
          rintro rfl
          rw [← hil, e] at e2
          exact h2 e2.symm
        refine ⟨by omega, ?_⟩
        rw [at_take _ _ _ (by omega)]
        exact e2
      · rintro ⟨hm, e2⟩
        rw [at_take _ _ _ hm] at e2
        exact ⟨by omega, e2⟩
end Go.Proofs.Ytdeefnhpechaiaa.PileP
