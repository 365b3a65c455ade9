/- Plain facts on heaps of keys with ranks, for the laws of layer 7: no program in sight. -/
namespace Go.Proofs.Ytdeefnhpechaiaa.PileP
set_option linter.unusedVariables false
abbrev It := Int × Int
def above (a b : It) : Bool := decide (a.2 < b.2) || (decide (a.2 = b.2) && decide (a.1 < b.1))
theorem above_iff {a b : It} : above a b = true ↔ a.2 < b.2 ∨ (a.2 = b.2 ∧ a.1 < b.1) := by simp [above]
theorem above_f {a b : It} : above a b = false ↔ b.2 < a.2 ∨ (b.2 = a.2 ∧ b.1 ≤ a.1) := by
  rw [Bool.eq_false_iff, Ne, above_iff]
  omega
theorem le_trans {a b c : It} (h : above b a = false) (k : above c b = false) : above c a = false := by
  rw [above_f] at *
  omega
theorem le_of {a b : It} (h : above a b = true) : above b a = false := by
  rw [above_iff] at h
  rw [above_f]
  omega
theorem le_refl (a : It) : above a a = false := by rw [above_f]; omega
theorem le_antisymm {a b : It} (h : above b a = false) (k : above a b = false) : a = b := by
  rw [above_f] at *
  refine Prod.ext ?_ ?_ <;> omega
def at_ (l : List It) (i : Nat) : It := (l[i]?).getD (0, 0)
theorem at_get {l : List It} {i : Nat} (h : i < l.length) : l[i]? = some (at_ l i) := by
  unfold at_
  rw [List.getElem?_eq_getElem h]
  rfl
theorem at_eq {l : List It} {i : Nat} {x : It} (h : l[i]? = some x) : at_ l i = x := by
  unfold at_
  rw [h]
  rfl
theorem at_set (l : List It) (i j : Nat) (x : It) (hj : j < l.length) : at_ (l.set i x) j = if i = j then x else at_ l j := by
  unfold at_
  rw [List.getElem?_set]
  by_cases h : i = j
  · subst h
    simp [hj]
  · simp [h]
theorem at_mem {l : List It} {i : Nat} (h : i < l.length) : at_ l i ∈ l := List.mem_of_getElem? (at_get h)
theorem mem_at {l : List It} {x : It} (h : x ∈ l) : ∃ i, i < l.length ∧ at_ l i = x := by
  obtain ⟨i, hi⟩ := List.mem_iff_getElem?.1 h
  exact ⟨i, (List.getElem?_eq_some_iff.1 hi).1, at_eq hi⟩
/-- two places changed over -/
def swap (l : List It) (i j : Nat) : List It := (l.set i (at_ l j)).set j (at_ l i)
theorem swap_length (l : List It) (i j : Nat) : (swap l i j).length = l.length := by simp [swap]
theorem at_swap (l : List It) (i j k : Nat) (hi : i < l.length) (hj : j < l.length) (hk : k < l.length) : at_ (swap l i j) k = if j = k then at_ l i else if i = k then at_ l j else at_ l k := by
  unfold swap
  rw [at_set _ _ _ _ (by simpa using hk)]
  split
  · rfl
  · rw [at_set _ _ _ _ hk]
theorem swap_perm (l : List It) (i j : Nat) (hi : i < l.length) (hj : j < l.length) : (swap l i j).Perm l := by
  have h := Array.swap_perm (xs := l.toArray) (i := i) (j := j) (by simpa using hi) (by simpa using hj)
  rw [List.swap_toArray] at h
  have h2 := h.toList
  simp only at h2
  have e1 : at_ l j = l[j] := at_eq (List.getElem?_eq_getElem hj)
  have e2 : at_ l i = l[i] := at_eq (List.getElem?_eq_getElem hi)
  unfold swap
  rw [e1, e2]
  exact h2
/-- each place stands at or below the one over it -/
def Heap (l : List It) : Prop := ∀ j, 0 < j → j < l.length → above (at_ l j) (at_ l ((j - 1) / 2)) = false
/-- only place i may stand above the one over it -/
def UpInv (l : List It) (i : Nat) : Prop :=
  (∀ j, 0 < j → j < l.length → j ≠ i → above (at_ l j) (at_ l ((j - 1) / 2)) = false) ∧
  (∀ j, 0 < j → j < l.length → (j - 1) / 2 = i → 0 < i → above (at_ l j) (at_ l ((i - 1) / 2)) = false)
/-- place i may stand anyhow -/
def AnyInv (l : List It) (i : Nat) : Prop :=
  (∀ j, 0 < j → j < l.length → j ≠ i → (j - 1) / 2 ≠ i → above (at_ l j) (at_ l ((j - 1) / 2)) = false) ∧
  (∀ j, 0 < j → j < l.length → (j - 1) / 2 = i → 0 < i → above (at_ l j) (at_ l ((i - 1) / 2)) = false)
/-- only the places below place i may stand above it -/
def DownInv (l : List It) (i : Nat) : Prop :=
  (∀ j, 0 < j → j < l.length → (j - 1) / 2 ≠ i → above (at_ l j) (at_ l ((j - 1) / 2)) = false) ∧
  (∀ j, 0 < j → j < l.length → (j - 1) / 2 = i → 0 < i → above (at_ l j) (at_ l ((i - 1) / 2)) = false)
theorem Heap.up {l : List It} (h : Heap l) (i : Nat) : UpInv l i := by
  refine ⟨fun j h0 hj _ => h j h0 hj, fun j h0 hj e hi => ?_⟩
  have h1 := h j h0 hj
  rw [e] at h1
  have h2 := h i hi (by omega)
  exact le_trans h2 h1
theorem Heap.down {l : List It} (h : Heap l) (i : Nat) : DownInv l i := by
  refine ⟨fun j h0 hj _ => h j h0 hj, fun j h0 hj e hi => ?_⟩
  have h1 := h j h0 hj
  rw [e] at h1
  have h2 := h i hi (by omega)
  exact le_trans h2 h1
theorem UpInv.any {l : List It} {i : Nat} (h : UpInv l i) : AnyInv l i := ⟨fun j h0 hj hi _ => h.1 j h0 hj hi, h.2⟩
/-- A heap in which one place is changed. -/
theorem Heap.set {l : List It} (h : Heap l) (i : Nat) (x : It) : AnyInv (l.set i x) i := by
  have hlen : (l.set i x).length = l.length := List.length_set ..
  refine ⟨fun j h0 hj hi hp => ?_, fun j h0 hj e hi => ?_⟩
  · rw [hlen] at hj
    rw [at_set _ _ _ _ hj, at_set _ _ _ _ (by omega), if_neg (by omega), if_neg (by omega)]
    exact h j h0 hj
  · rw [hlen] at hj
    rw [at_set _ _ _ _ hj, at_set _ _ _ _ (by omega), if_neg (by omega), if_neg (by omega)]
    exact (h.up i).2 j h0 hj e hi
/-- A heap to which one is added behind. -/
theorem Heap.snoc {l : List It} (h : Heap l) (x : It) : UpInv (l ++ [x]) l.length := by
  have hat : ∀ j, j < l.length → at_ (l ++ [x]) j = at_ l j := fun j hj => by
    unfold at_
    rw [List.getElem?_append_left hj]
  refine ⟨fun j h0 hj hi => ?_, fun j h0 hj e hi => ?_⟩
  · rw [List.length_append, List.length_singleton] at hj
    rw [hat j (by omega), hat _ (by omega)]
    exact h j h0 (by omega)
  · rw [List.length_append, List.length_singleton] at hj
    omega
/-- up stops: at the top, or below what stands above. -/
theorem UpInv.stop {l : List It} {i : Nat} (h : UpInv l i) (hs : i = 0 ∨ above (at_ l i) (at_ l ((i - 1) / 2)) = false) : Heap l := by
  intro j h0 hj
  by_cases e : j = i
  · subst e
    rcases hs with hs | hs
    · omega
    · exact hs
  · exact h.1 j h0 hj e
theorem AnyInv.stop {l : List It} {i : Nat} (h : AnyInv l i) (hs : i = 0 ∨ above (at_ l i) (at_ l ((i - 1) / 2)) = false) : DownInv l i := by
  refine ⟨fun j h0 hj e => ?_, h.2⟩
  by_cases e2 : j = i
  · subst e2
    rcases hs with hs | hs
    · omega
    · exact hs
  · exact h.1 j h0 hj e2 e
/-- up goes on. -/
theorem AnyInv.go {l : List It} {i : Nat} (h : AnyInv l i) (hi : 0 < i) (hl : i < l.length) (hs : above (at_ l i) (at_ l ((i - 1) / 2)) = true) : UpInv (swap l i ((i - 1) / 2)) ((i - 1) / 2) := by
  have hlen := swap_length l i ((i - 1) / 2)
  have hp : (i - 1) / 2 < i := by omega
  have hpl : (i - 1) / 2 < l.length := by omega
  have hq : ∀ k, k < l.length → at_ (swap l i ((i - 1) / 2)) k = if (i - 1) / 2 = k then at_ l i else if i = k then at_ l ((i - 1) / 2) else at_ l k := fun k hk => at_swap l i _ k hl hpl hk
  have hpar : ∀ j, 0 < j → j < l.length → j ≠ i → (j - 1) / 2 ≠ i → above (at_ l j) (at_ l ((j - 1) / 2)) = false := h.1
  -- what stands beside i stands below what was over both
  refine ⟨fun j h0 hj hne => ?_, fun j h0 hj e hi2 => ?_⟩
  · rw [hlen] at hj
    rw [hq j hj, hq _ (by omega), if_neg (by omega)]
    by_cases hji : i = j
    · subst hji
      rw [if_pos rfl, if_pos rfl]
      exact le_of hs
    · rw [if_neg hji]
      by_cases hc : (j - 1) / 2 = (i - 1) / 2
      · -- i's brother
        rw [if_pos hc.symm]
        have h1 := hpar j h0 hj (by omega) (by omega)
        rw [hc] at h1
        exact le_trans (le_of hs) h1
      · rw [if_neg (by omega)]
        by_cases hc2 : (j - 1) / 2 = i
        · rw [if_pos hc2.symm]
          exact h.2 j h0 hj hc2 hi
        · rw [if_neg (by omega)]
          exact hpar j h0 hj (by omega) hc2
  · rw [hlen] at hj
    rw [hq j hj, hq _ (by omega), if_neg (by omega), if_neg (by omega : ¬ (i - 1) / 2 = ((i - 1) / 2 - 1) / 2), if_neg (by omega : ¬ i = ((i - 1) / 2 - 1) / 2)]
    have hg : above (at_ l ((i - 1) / 2)) (at_ l (((i - 1) / 2 - 1) / 2)) = false := hpar _ hi2 hpl (by omega) (by omega)
    by_cases hji : i = j
    · subst hji
      rw [if_pos rfl]
      exact hg
    · rw [if_neg hji]
      have h1 := hpar j h0 hj (by omega) (by omega)
      rw [e] at h1
      exact le_trans hg h1
/-- down stops. -/
theorem DownInv.stop {l : List It} {i : Nat} (h : DownInv l i) (h1 : 2 * i + 1 < l.length → above (at_ l (2 * i + 1)) (at_ l i) = false) (h2 : 2 * i + 2 < l.length → above (at_ l (2 * i + 2)) (at_ l i) = false) : Heap l := by
  intro j h0 hj
  by_cases e : (j - 1) / 2 = i
  · rw [e]
    rcases (by omega : j = 2 * i + 1 ∨ j = 2 * i + 2) with rfl | rfl
    · exact h1 hj
    · exact h2 hj
  · exact h.1 j h0 hj e
/-- down goes on, to the least of those below. -/
theorem DownInv.go {l : List It} {i k : Nat} (h : DownInv l i) (hk : k < l.length) (hk0 : (k - 1) / 2 = i) (hk1 : 0 < k) (hs : above (at_ l k) (at_ l i) = true)
    (hb : ∀ j, 0 < j → j < l.length → (j - 1) / 2 = i → above (at_ l j) (at_ l k) = false) : DownInv (swap l i k) k := by
  have hlen := swap_length l i k
  have hil : i < l.length := by omega
  have hq : ∀ m, m < l.length → at_ (swap l i k) m = if k = m then at_ l i else if i = m then at_ l k else at_ l m := fun m hm => at_swap l i k m hil hk hm
  refine ⟨fun j h0 hj hne => ?_, fun j h0 hj e hk2 => ?_⟩
  · rw [hlen] at hj
    rw [hq j hj, hq _ (by omega), if_neg (by omega : ¬ k = (j - 1) / 2)]
    by_cases hjk : k = j
    · subst hjk
      rw [if_pos rfl, if_pos hk0.symm]
      exact le_of hs
    · rw [if_neg hjk]
      by_cases hji : i = j
      · subst hji
        rw [if_pos rfl, if_neg (by omega)]
        exact h.2 k hk1 hk hk0 h0
      · rw [if_neg hji]
        by_cases hc : i = (j - 1) / 2
        · rw [if_pos hc]
          exact hb j h0 hj hc.symm
        · rw [if_neg hc]
          exact h.1 j h0 hj (by omega)
  · rw [hlen] at hj
    rw [hq j hj, hq _ (by omega), if_neg (by omega), if_neg (by omega), if_neg (by omega : ¬ k = (k - 1) / 2), if_pos hk0.symm]
    have h1 := h.1 j h0 hj (by omega)
    rw [e] at h1
    exact h1
/-- On top of a heap stands the least. -/
theorem Heap.top {l : List It} (h : Heap l) : ∀ j, j < l.length → above (at_ l j) (at_ l 0) = false := by
  intro j
  induction j using Nat.strongRecOn with
  | _ j ih =>
    intro hj
    rcases Nat.eq_zero_or_pos j with rfl | h0
    · exact le_refl _
    · exact le_trans (ih ((j - 1) / 2) (by omega) (by omega)) (h j h0 hj)
/-! ### where each key stands -/
def Keyed (look : Int → Option Nat) (l : List It) : Prop := ∀ key i, look key = some i ↔ i < l.length ∧ (at_ l i).1 = key
def upd (look : Int → Option Nat) (k : Int) (v : Option Nat) : Int → Option Nat := fun x => if x = k then v else look x
theorem Keyed.inj {look : Int → Option Nat} {l : List It} (h : Keyed look l) {i j : Nat} (hi : i < l.length) (hj : j < l.length) (e : (at_ l i).1 = (at_ l j).1) : i = j := by
  have h1 := (h _ i).2 ⟨hi, rfl⟩
  have h2 := (h _ j).2 ⟨hj, rfl⟩
  rw [e, h2] at h1
  exact (Option.some.inj h1).symm
theorem Keyed.nil : Keyed (fun _ => none) [] := fun key i => by simp
theorem Keyed.none_iff {look : Int → Option Nat} {l : List It} (h : Keyed look l) (key : Int) : look key = none ↔ ∀ x ∈ l, x.1 ≠ key := by
  constructor
  · intro hn x hx e
    obtain ⟨i, hi, rfl⟩ := mem_at hx
    rw [(h key i).2 ⟨hi, e⟩] at hn
    cases hn
  · intro hall
    cases hl : look key with
    | none => rfl
    | some i =>
      obtain ⟨hi, e⟩ := (h key i).1 hl
      exact absurd e (hall _ (at_mem hi))
theorem Keyed.swap {look : Int → Option Nat} {l : List It} (h : Keyed look l) {i j : Nat} (hi : i < l.length) (hj : j < l.length) (hne : i ≠ j) :
    Keyed (upd (upd look (at_ l i).1 (some j)) (at_ l j).1 (some i)) (PileP.swap l i j) := by
  intro key m
  rw [swap_length]
  unfold upd
  have hd : (at_ l i).1 ≠ (at_ l j).1 := fun e => hne (h.inj hi hj e)
  by_cases h1 : key = (at_ l j).1
  · rw [if_pos h1]
    constructor
    · intro e
      injection e with e
      subst e
      refine ⟨hi, ?_⟩
      rw [at_swap l i j i hi hj hi, if_neg (Ne.symm hne), if_pos rfl, h1]
    · rintro ⟨hm, e⟩
      rw [at_swap l i j m hi hj hm] at e
      by_cases hjm : j = m
      · rw [if_pos hjm, h1] at e
        exact absurd e hd
      · rw [if_neg hjm] at e
        by_cases him : i = m
        · rw [him]
        · rw [if_neg him, h1] at e
          exact absurd (h.inj hm hj e).symm hjm
  · rw [if_neg h1]
    by_cases h2 : key = (at_ l i).1
    · rw [if_pos h2]
      constructor
      · intro e
        injection e with e
        subst e
        refine ⟨hj, ?_⟩
        rw [at_swap l i j j hi hj hj, if_pos rfl, h2]
      · rintro ⟨hm, e⟩
        rw [at_swap l i j m hi hj hm] at e
        by_cases hjm : j = m
        · rw [hjm]
        · rw [if_neg hjm] at e
          by_cases him : i = m
          · rw [if_pos him, h2] at e
            exact absurd e.symm hd
          · rw [if_neg him, h2] at e
            exact absurd (h.inj hm hi e).symm him
    · rw [if_neg h2]
      rw [h key m]
      constructor
      · rintro ⟨hm, e⟩
        refine ⟨hm, ?_⟩
        rw [at_swap l i j m hi hj hm, if_neg ?_, if_neg ?_]
        · exact e
        · rintro rfl
          exact h2 e.symm
        · rintro rfl
          exact h1 e.symm
      · rintro ⟨hm, e⟩
        refine ⟨hm, ?_⟩
        rw [at_swap l i j m hi hj hm] at e
        by_cases hjm : j = m
        · rw [if_pos hjm] at e
          exact absurd e.symm h2
        · rw [if_neg hjm] at e
          by_cases him : i = m
          · rw [if_pos him] at e
            exact absurd e.symm h1
          · rw [if_neg him] at e
            exact e
theorem Keyed.snoc {look : Int → Option Nat} {l : List It} (h : Keyed look l) {key : Int} (hk : look key = none) (r : Int) : Keyed (upd look key (some l.length)) (l ++ [(key, r)]) := by
  have hat : ∀ j, j < l.length → at_ (l ++ [(key, r)]) j = at_ l j := fun j hj => by
    unfold at_
    rw [List.getElem?_append_left hj]
  have hlast : at_ (l ++ [(key, r)]) l.length = (key, r) := by
    unfold at_
    simp
  intro k m
  rw [List.length_append, List.length_singleton]
  unfold upd
  by_cases e : k = key
  · rw [if_pos e]
    subst e
    constructor
    · intro h1
      injection h1 with h1
      subst h1
      exact ⟨by omega, by rw [hlast]⟩
    · rintro ⟨hm, h1⟩
      rcases Nat.lt_or_ge m l.length with h2 | h2
      · rw [hat m h2] at h1
        have := (h k m).2 ⟨h2, h1⟩
        rw [hk] at this
        cases this
      · rw [show m = l.length by omega]
  · rw [if_neg e, h k m]
    constructor
    · rintro ⟨hm, h1⟩
      exact ⟨by omega, by rw [hat m hm]; exact h1⟩
    · rintro ⟨hm, h1⟩
      rcases Nat.lt_or_ge m l.length with h2 | h2
      · rw [hat m h2] at h1
        exact ⟨h2, h1⟩
      · rw [show m = l.length by omega, hlast] at h1
        exact absurd h1.symm e
/-- A place's rank is changed. -/
theorem Keyed.rank {look : Int → Option Nat} {l : List It} (h : Keyed look l) {key : Int} {i : Nat} (hk : look key = some i) (r : Int) : Keyed look (l.set i (key, r)) := by
  obtain ⟨hi, e⟩ := (h key i).1 hk
  intro k m
  rw [List.length_set, h k m]
  constructor
  · rintro ⟨hm, h1⟩
    refine ⟨hm, ?_⟩
    rw [at_set _ _ _ _ hm]
    split
    · rename_i him
      subst him
      rw [← h1, e]
    · exact h1
  · rintro ⟨hm, h1⟩
    refine ⟨hm, ?_⟩
    rw [at_set _ _ _ _ hm] at h1
    split at h1
    · rename_i him
      subst him
      rw [e]
      exact h1
    · exact h1
end Go.Proofs.Ytdeefnhpechaiaa.PileP
