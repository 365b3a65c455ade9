/- Plain facts on rising rows of pairs (keys with values), for the laws of layer 6: no program in sight. -/
import Derived.Lib.MinMaxS
namespace Go.Proofs.Ytcjnmipmdnlkmaa.TabP
abbrev Pr := ByteArray × ByteArray
/-- a key's order -/
def lt (a b : ByteArray) : Bool := Op.bytesLess a.toList b.toList
theorem lt_iff {a b : ByteArray} : lt a b = true ↔ a.data.toList < b.data.toList := by
  unfold lt
  rw [Proofs.bytesLess_eq, Lib.toList_data, Lib.toList_data, decide_eq_true_eq]
theorem toList_eq {a b : ByteArray} : a.toList = b.toList ↔ a = b := by
  constructor
  · intro h
    rw [Lib.toList_data, Lib.toList_data] at h
    cases a; cases b
    simp only [ByteArray.mk.injEq]
    exact Array.ext' h
  · rintro rfl; rfl
theorem lt_irrefl (a : ByteArray) : lt a a = false := by
  rw [Bool.eq_false_iff]
  intro h
  exact absurd (lt_iff.1 h) (List.lt_irrefl _)
theorem lt_trans {a b c : ByteArray} (h : lt a b = true) (k : lt b c = true) : lt a c = true := lt_iff.2 (List.lt_trans (lt_iff.1 h) (lt_iff.1 k))
theorem lt_asymm {a b : ByteArray} (h : lt a b = true) : lt b a = false := by
  rw [Bool.eq_false_iff]
  intro k
  have := lt_trans h k
  rw [lt_irrefl] at this
  cases this
theorem less_total : ∀ (a b : List UInt8), Op.bytesLess a b = false → a ≠ b → Op.bytesLess b a = true
  | [], [], _, h => absurd rfl h
  | [], _ :: _, h, _ => by simp [Op.bytesLess] at h
  | _ :: _, [], _, _ => rfl
  | x :: a, y :: b, h, hne => by
    simp only [Op.bytesLess, Bool.or_eq_false_iff, Bool.and_eq_false_iff, decide_eq_false_iff_not] at h
    simp only [Op.bytesLess, Bool.or_eq_true, Bool.and_eq_true, decide_eq_true_eq, beq_iff_eq]
    by_cases hxy : x = y
    · subst hxy
      refine .inr ⟨rfl, less_total a b ?_ (fun e => hne (by rw [e]))⟩
      rcases h.2 with h2 | h2
      · simp at h2
      · exact h2
    · refine .inl ?_
      have h1 := h.1
      rw [UInt8.lt_iff_toNat_lt] at h1 ⊢
      have : x.toNat ≠ y.toNat := fun e => hxy (UInt8.toNat_inj.1 e)
      omega
theorem lt_total {a b : ByteArray} (h : lt a b = false) (hne : a ≠ b) : lt b a = true := less_total _ _ h (fun e => hne (toList_eq.1 e))
theorem lt_of_eq_false {a b : ByteArray} (h : lt a b = true) : a ≠ b := by
  rintro rfl
  rw [lt_irrefl] at h
  cases h
def Rising (l : List Pr) : Prop := l.Pairwise fun x y => lt x.1 y.1 = true
/-- how many keys stand ahead of one -/
def cnt (l : List Pr) (k : ByteArray) : Nat := (l.takeWhile fun x => lt x.1 k).length
def has (l : List Pr) (k : ByteArray) : Bool := ((l.drop (cnt l k)).head?.map fun x => decide (x.1 = k)).getD false
def rest (l : List Pr) (k : ByteArray) : List Pr := if has l k = true then l.drop (cnt l k + 1) else l.drop (cnt l k)
def put (l : List Pr) (k v : ByteArray) : List Pr := l.take (cnt l k) ++ (k, v) :: rest l k
def del (l : List Pr) (k : ByteArray) : List Pr := if has l k = true then l.take (cnt l k) ++ l.drop (cnt l k + 1) else l
def get (l : List Pr) (k : ByteArray) : ByteArray × Bool := if has l k = true then (((l.drop (cnt l k)).head?.map Prod.snd).getD ByteArray.empty, true) else (ByteArray.empty, false)
theorem cnt_le (l : List Pr) (k : ByteArray) : cnt l k ≤ l.length := by
  unfold cnt
  induction l with
  | nil => simp
  | cons x l ih => rw [List.takeWhile_cons]; split <;> simp <;> omega
theorem cnt_nil (k : ByteArray) : cnt [] k = 0 := rfl
theorem cnt_cons (x : Pr) (l : List Pr) (k : ByteArray) : cnt (x :: l) k = if lt x.1 k = true then cnt l k + 1 else 0 := by
  unfold cnt
  rw [List.takeWhile_cons]
  split <;> simp
theorem has_cons (x : Pr) (l : List Pr) (k : ByteArray) : has (x :: l) k = if lt x.1 k = true then has l k else decide (x.1 = k) := by
  unfold has
  rw [cnt_cons]
  split <;> simp
theorem has_nil (k : ByteArray) : has [] k = false := rfl
theorem Rising.tail {x : Pr} {l : List Pr} (h : Rising (x :: l)) : Rising l := (List.pairwise_cons.1 h).2
theorem Rising.head {x : Pr} {l : List Pr} (h : Rising (x :: l)) : ∀ y ∈ l, lt x.1 y.1 = true := (List.pairwise_cons.1 h).1
/-- In a rising row the i-th key stands ahead just where i is less than the count. -/
theorem cnt_iff {l : List Pr} (hr : Rising l) (k : ByteArray) : ∀ (i : Nat) (x : Pr), l[i]? = some x → (lt x.1 k = true ↔ i < cnt l k) := by
  induction l with
  | nil => intro i x h; simp at h
  | cons y l ih =>
    intro i x h
    rw [cnt_cons]
    by_cases hy : lt y.1 k = true
    · rw [if_pos hy]
      cases i with
      | zero =>
        simp at h
        subst h
        simp [hy]
      | succ i =>
        rw [List.getElem?_cons_succ] at h
        rw [ih hr.tail i x h]
        omega
    · rw [if_neg hy]
      refine ⟨fun hx => ?_, fun hx => by omega⟩
      cases i with
      | zero =>
        simp at h
        subst h
        exact absurd hx hy
      | succ i =>
        rw [List.getElem?_cons_succ] at h
        exact absurd (lt_trans (hr.head x (List.mem_of_getElem? h)) hx) hy
theorem at_cnt (l : List Pr) (k : ByteArray) (x : Pr) (h : l[cnt l k]? = some x) : ¬ lt x.1 k = true := by
  induction l with
  | nil => simp at h
  | cons y l ih =>
    rw [cnt_cons] at h
    by_cases hy : lt y.1 k = true
    · rw [if_pos hy, List.getElem?_cons_succ] at h
      exact ih h
    · rw [if_neg hy] at h
      simp at h
      subst h
      exact hy
theorem ahead (l : List Pr) (k : ByteArray) : ∀ i, i < cnt l k → ∃ x, l[i]? = some x ∧ lt x.1 k = true := by
  induction l with
  | nil => intro i h; simp [cnt_nil] at h
  | cons y l ih =>
    intro i h
    rw [cnt_cons] at h
    by_cases hy : lt y.1 k = true
    · rw [if_pos hy] at h
      cases i with
      | zero => exact ⟨y, rfl, hy⟩
      | succ i =>
        obtain ⟨x, hx, hl⟩ := ih i (by omega)
        exact ⟨x, by rw [List.getElem?_cons_succ]; exact hx, hl⟩
    · rw [if_neg hy] at h
      omega
theorem has_at (l : List Pr) (k : ByteArray) : has l k = match l[cnt l k]? with | some x => decide (x.1 = k) | none => false := by
  unfold has
  rw [List.head?_drop]
  cases l[cnt l k]? <;> rfl
theorem get_at (l : List Pr) (k : ByteArray) : get l k = match l[cnt l k]? with | some x => if x.1 = k then (x.2, true) else (ByteArray.empty, false) | none => (ByteArray.empty, false) := by
  unfold get
  rw [has_at, List.head?_drop]
  cases l[cnt l k]? with
  | none => rfl
  | some x => by_cases h : x.1 = k <;> simp [h]
theorem has_mem {l : List Pr} (hr : Rising l) (k : ByteArray) : has l k = true ↔ ∃ x ∈ l, x.1 = k := by
  induction l with
  | nil => simp [has_nil]
  | cons y l ih =>
    rw [has_cons]
    by_cases hy : lt y.1 k = true
    · rw [if_pos hy, ih hr.tail]
      constructor
      · rintro ⟨x, hx, h⟩; exact ⟨x, List.mem_cons_of_mem _ hx, h⟩
      · rintro ⟨x, hx, h⟩
        rcases List.mem_cons.1 hx with rfl | hx
        · exact absurd h (lt_of_eq_false hy)
        · exact ⟨x, hx, h⟩
    · rw [if_neg hy, decide_eq_true_eq]
      constructor
      · intro h; exact ⟨y, List.mem_cons_self, h⟩
      · rintro ⟨x, hx, h⟩
        rcases List.mem_cons.1 hx with rfl | hx
        · exact h
        · have := hr.head x hx
          rw [h] at this
          exact absurd this hy
theorem put_cons (x : Pr) (l : List Pr) (k v : ByteArray) : put (x :: l) k v = if lt x.1 k = true then x :: put l k v else if x.1 = k then (k, v) :: l else (k, v) :: x :: l := by
  unfold put rest
  rw [cnt_cons, has_cons]
  by_cases h : lt x.1 k = true
  · simp [h]
  · by_cases h2 : x.1 = k
    · simp [h2, lt_irrefl]
    · simp [h, h2]
theorem put_nil (k v : ByteArray) : put [] k v = [(k, v)] := rfl
theorem put_mem {l : List Pr} {k v : ByteArray} {y : Pr} (h : y ∈ put l k v) : y = (k, v) ∨ y ∈ l := by
  induction l with
  | nil => rw [put_nil] at h; simpa using h
  | cons x l ih =>
    rw [put_cons] at h
    split at h
    · rcases List.mem_cons.1 h with h | h
      · exact .inr (by rw [h]; exact List.mem_cons_self)
      · rcases ih h with h | h
        · exact .inl h
        · exact .inr (List.mem_cons_of_mem _ h)
    · split at h
      · rcases List.mem_cons.1 h with h | h
        · exact .inl h
        · exact .inr (List.mem_cons_of_mem _ h)
      · rcases List.mem_cons.1 h with h | h
        · exact .inl h
        · exact .inr h
theorem put_rising {l : List Pr} (hr : Rising l) (k v : ByteArray) : Rising (put l k v) := by
  induction l with
  | nil => rw [put_nil]; exact List.pairwise_singleton _ _
  | cons x l ih =>
    rw [put_cons]
    by_cases h : lt x.1 k = true
    · rw [if_pos h]
      refine List.pairwise_cons.2 ⟨fun y hy => ?_, ih hr.tail⟩
      rcases put_mem hy with rfl | hy
      · exact h
      · exact hr.head y hy
    · rw [if_neg h]
      by_cases h2 : x.1 = k
      · rw [if_pos h2]
        exact List.pairwise_cons.2 ⟨fun y hy => by have := hr.head y hy; rw [h2] at this; exact this, hr.tail⟩
      · rw [if_neg h2]
        have h3 := lt_total (Bool.eq_false_iff.2 h) h2
        refine List.pairwise_cons.2 ⟨fun y hy => ?_, hr⟩
        rcases List.mem_cons.1 hy with rfl | hy
        · exact h3
        · exact lt_trans h3 (hr.head y hy)
theorem put_length (l : List Pr) (k v : ByteArray) : (put l k v).length = if has l k = true then l.length else l.length + 1 := by
  induction l with
  | nil => simp [put_nil, has_nil]
  | cons x l ih =>
    rw [put_cons, has_cons]
    by_cases h : lt x.1 k = true
    · simp only [if_pos h, List.length_cons, ih]
      split <;> omega
    · by_cases h2 : x.1 = k
      · simp [h2, lt_irrefl]
      · simp [h, h2]
theorem get_cons (x : Pr) (l : List Pr) (k : ByteArray) : get (x :: l) k = if lt x.1 k = true then get l k else if x.1 = k then (x.2, true) else (ByteArray.empty, false) := by
  unfold get
  rw [has_cons, cnt_cons]
  by_cases h : lt x.1 k = true
  · simp [h]
  · by_cases h2 : x.1 = k
    · simp [h2, lt_irrefl]
    · simp [h, h2]
theorem get_nil (k : ByteArray) : get [] k = (ByteArray.empty, false) := rfl
theorem get_snd (l : List Pr) (k : ByteArray) : (get l k).2 = has l k := by
  unfold get
  split
  · rename_i h; rw [h]
  · rename_i h; simp at h; rw [h]
theorem get_put_same (l : List Pr) (k v : ByteArray) : get (put l k v) k = (v, true) := by
  induction l with
  | nil => rw [put_nil, get_cons]; simp [lt_irrefl]
  | cons x l ih =>
    rw [put_cons]
    by_cases h : lt x.1 k = true
    · rw [if_pos h, get_cons, if_pos h, ih]
    · rw [if_neg h]
      by_cases h2 : x.1 = k
      · rw [if_pos h2, get_cons]; simp [lt_irrefl]
      · rw [if_neg h2, get_cons]; simp [lt_irrefl]
theorem get_put_other {l : List Pr} (hr : Rising l) (k v q : ByteArray) (hq : q ≠ k) : get (put l k v) q = get l q := by
  induction l with
  | nil => rw [put_nil, get_cons, get_nil]; split <;> simp [Ne.symm hq]
  | cons x l ih =>
    rw [put_cons]
    by_cases h : lt x.1 k = true
    · rw [if_pos h, get_cons, get_cons, ih hr.tail]
    · rw [if_neg h]
      by_cases h2 : x.1 = k
      · rw [if_pos h2, get_cons, get_cons, h2]
        simp [Ne.symm hq]
      · rw [if_neg h2, get_cons (k, v), get_cons]
        by_cases h3 : lt k q = true
        · simp [h3]
        · simp only [h3, Bool.false_eq_true, if_false]
          rw [if_neg (Ne.symm hq)]
          have h4 := lt_total (Bool.eq_false_iff.2 h) h2
          have h5 := lt_total (Bool.eq_false_iff.2 h3) (Ne.symm hq)
          have h6 := lt_trans h5 h4
          rw [if_neg (by rw [lt_asymm h6]; simp), if_neg (by intro e; rw [e, lt_irrefl] at h6; cases h6)]
theorem del_cons (x : Pr) (l : List Pr) (k : ByteArray) : del (x :: l) k = if lt x.1 k = true then x :: del l k else if x.1 = k then l else x :: l := by
  unfold del
  rw [cnt_cons, has_cons]
  by_cases h : lt x.1 k = true
  · simp only [if_pos h, List.take_succ_cons, List.drop_succ_cons]
    split <;> rfl
  · by_cases h2 : x.1 = k
    · simp [h2, lt_irrefl]
    · simp [h, h2]
theorem del_nil (k : ByteArray) : del [] k = [] := rfl
theorem del_filter {l : List Pr} (hr : Rising l) (k : ByteArray) : del l k = l.filter fun x => decide (x.1 ≠ k) := by
  induction l with
  | nil => rfl
  | cons x l ih =>
    rw [del_cons, List.filter_cons]
    by_cases h : lt x.1 k = true
    · rw [if_pos h, if_pos (by simpa using lt_of_eq_false h), ih hr.tail]
    · rw [if_neg h]
      have hall : ∀ y ∈ l, x.1 = k ∨ True → y.1 ≠ k := by
        intro y hy _ he
        have h3 := hr.head y hy
        rw [he] at h3
        exact h h3
      have hl : l.filter (fun x => decide (x.1 ≠ k)) = l := List.filter_eq_self.2 (fun y hy => by simpa using hall y hy (.inr trivial))
      by_cases h2 : x.1 = k
      · rw [if_pos h2, if_neg (by simpa using h2), hl]
      · rw [if_neg h2, if_pos (by simpa using h2), hl]
theorem filter_rising {l : List Pr} (hr : Rising l) (p : Pr → Bool) : Rising (l.filter p) := hr.sublist List.filter_sublist
theorem del_rising {l : List Pr} (hr : Rising l) (k : ByteArray) : Rising (del l k) := by rw [del_filter hr]; exact filter_rising hr _
theorem del_length (l : List Pr) (k : ByteArray) : (del l k).length ≤ l.length := by
  induction l with
  | nil => simp [del_nil]
  | cons x l ih =>
    rw [del_cons]
    split
    · simp; omega
    · split <;> simp
theorem has_del {l : List Pr} (hr : Rising l) (k : ByteArray) : has (del l k) k = false := by
  rw [Bool.eq_false_iff]
  intro h
  obtain ⟨x, hx, he⟩ := (has_mem (del_rising hr k) k).1 h
  rw [del_filter hr, List.mem_filter] at hx
  simp [he] at hx
theorem get_find {l : List Pr} (hr : Rising l) (k : ByteArray) : get l k = match l.find? (fun x => decide (x.1 = k)) with | some x => (x.2, true) | none => (ByteArray.empty, false) := by
  induction l with
  | nil => rfl
  | cons x l ih =>
    rw [get_cons, List.find?_cons]
    by_cases h : lt x.1 k = true
    · rw [if_pos h, ih hr.tail]
      have := lt_of_eq_false h
      simp [this]
    · rw [if_neg h]
      by_cases h2 : x.1 = k
      · simp [h2]
      · have hnone : l.find? (fun x => decide (x.1 = k)) = none := by
          rw [List.find?_eq_none]
          intro y hy he
          have h3 := hr.head y hy
          rw [show y.1 = k by simpa using he] at h3
          exact h h3
        simp [h2, hnone]
end Go.Proofs.Ytcjnmipmdnlkmaa.TabP
