/- A pile as the bag of its items: what each method does, in whatever order the items stand. -/
import Derived.Test.YtdeefnhpechaiaaPileH
namespace Go.Proofs.Ytdeefnhpechaiaa.PileI
set_option linter.unusedVariables false
open Go.RowKit Go.Maps Go.Proofs.YtdeefnhpechaiaaW.PrintWords Go.Proofs.YtdeefnhpechaiaaW.PrintLast Go.Proofs.YtdeefnhpechaiaaW.PrintMore Go.Proofs.Ytdeefnhpechaiaa.PileP Go.Proofs.Ytdeefnhpechaiaa.PileC Go.Proofs.Ytdeefnhpechaiaa.PileD Go.Proofs.Ytdeefnhpechaiaa.PileE Go.Proofs.Ytdeefnhpechaiaa.PileF Go.Proofs.Ytdeefnhpechaiaa.PileG Go.Proofs.Ytdeefnhpechaiaa.PileH Go.Proofs.Ytdeefnhpechaiaa.Q
/-- one key, one item -/
def Uniq (m : List It) : Prop := (m.map Prod.fst).Nodup
theorem Uniq.perm {l m : List It} (h : Uniq l) (p : l.Perm m) : Uniq m := (p.map Prod.fst).nodup_iff.1 h
theorem Uniq.inj {m : List It} (h : Uniq m) {x y : It} (hx : x ∈ m) (hy : y ∈ m) (e : x.1 = y.1) : x = y := by
  induction m with
  | nil => cases hx
  | cons z m ih =>
    have h' := List.nodup_cons.1 (show (z.1 :: m.map Prod.fst).Nodup from h)
    rcases List.mem_cons.1 hx with rfl | hx <;> rcases List.mem_cons.1 hy with rfl | hy
    · rfl
    · exact absurd (show x.1 ∈ m.map Prod.fst from List.mem_map.2 ⟨y, hy, e.symm⟩) h'.1
    · exact absurd (show y.1 ∈ m.map Prod.fst from List.mem_map.2 ⟨x, by assumption, e⟩) h'.1
    · exact ih h'.2 hx hy
theorem keyed_uniq {look : Int → Option Nat} {l : List It} (h : PileP.Keyed look l) : Uniq l := by
  unfold Uniq
  refine List.pairwise_iff_getElem.2 fun i j hi hj hij e => ?_
  rw [List.length_map] at hi hj
  rw [List.getElem_map, List.getElem_map] at e
  have e1 : at_ l i = l[i] := at_eq (List.getElem?_eq_getElem hi)
  have e2 : at_ l j = l[j] := at_eq (List.getElem?_eq_getElem hj)
  rw [← e1, ← e2] at e
  have := h.inj hi hj e
  omega
theorem find_spec (m : List It) (key : Int) : (∃ x, find m key = some x ∧ x ∈ m ∧ x.1 = key) ∨ (find m key = none ∧ ∀ x ∈ m, x.1 ≠ key) := by
  unfold find
  cases h : m.find? (fun x => decide (x.1 = key)) with
  | none => exact .inr ⟨rfl, fun x hx => by simpa using List.find?_eq_none.1 h x hx⟩
  | some x => exact .inl ⟨x, rfl, List.mem_of_find?_eq_some h, by simpa using List.find?_some h⟩
theorem find_mem {m : List It} (h : Uniq m) {x : It} (hx : x ∈ m) : find m x.1 = some x := by
  rcases find_spec m x.1 with ⟨y, e, hy, ek⟩ | ⟨_, hn⟩
  · rw [e, h.inj hy hx ek]
  · exact absurd rfl (hn x hx)
theorem find_perm {l m : List It} (h : Uniq l) (p : l.Perm m) (key : Int) : find l key = find m key := by
  rcases find_spec l key with ⟨y, e, hy, rfl⟩ | ⟨e, hn⟩
  · rw [e, find_mem (h.perm p) (p.mem_iff.1 hy)]
  · rcases find_spec m key with ⟨y, e2, hy, ek⟩ | ⟨e2, _⟩
    · exact absurd ek (hn y (p.mem_iff.2 hy))
    · rw [e, e2]
/-- the least of a bag -/
def tp : List It → It
  | [] => (0, 0)
  | x :: m => m.foldl (fun a b => if above b a = true then b else a) x
theorem fold_spec (m : List It) : ∀ x : It, (m.foldl (fun a b => if above b a = true then b else a) x) ∈ x :: m ∧ ∀ y ∈ x :: m, above y (m.foldl (fun a b => if above b a = true then b else a) x) = false := by
  induction m with
  | nil =>
    intro x
    refine ⟨List.mem_cons_self, fun y hy => ?_⟩
    obtain rfl := List.mem_singleton.1 hy
    exact le_refl _
  | cons z m ih =>
    intro x
    rw [List.foldl_cons]
    by_cases h : above z x = true
    · rw [if_pos h]
      obtain ⟨h1, h2⟩ := ih z
      refine ⟨List.mem_cons_of_mem _ h1, fun y hy => ?_⟩
      rcases List.mem_cons.1 hy with rfl | hy
      · exact le_trans (h2 z List.mem_cons_self) (le_of h)
      · exact h2 y hy
    · rw [if_neg h]
      obtain ⟨h1, h2⟩ := ih x
      refine ⟨?_, fun y hy => ?_⟩
      · rcases List.mem_cons.1 h1 with e | h1
        · rw [e]; exact List.mem_cons_self
        · exact List.mem_cons_of_mem _ (List.mem_cons_of_mem _ h1)
      · rcases List.mem_cons.1 hy with rfl | hy
        · exact h2 _ List.mem_cons_self
        · rcases List.mem_cons.1 hy with rfl | hy
          · exact le_trans (h2 x List.mem_cons_self) (Bool.eq_false_iff.2 h)
          · exact h2 y (List.mem_cons_of_mem _ hy)
theorem tp_spec {m : List It} (h : m ≠ []) : tp m ∈ m ∧ ∀ y ∈ m, above y (tp m) = false := by
  cases m with
  | nil => exact absurd rfl h
  | cons x m => exact fold_spec m x
theorem tp_eq {m : List It} {x : It} (hx : x ∈ m) (h : ∀ y ∈ m, above y x = false) : tp m = x := by
  have hne : m ≠ [] := by rintro rfl; cases hx
  obtain ⟨h1, h2⟩ := tp_spec hne
  exact le_antisymm (h2 x hx) (h _ h1)
theorem heap_top {l m : List It} (hh : Heap l) (p : l.Perm m) : at_ l 0 = tp m := by
  cases hl : l with
  | nil =>
    subst hl
    obtain rfl := p.symm.eq_nil
    rfl
  | cons x l' =>
    rw [← hl]
    have h0 : 0 < l.length := by rw [hl]; simp
    refine (tp_eq (p.mem_iff.1 (at_mem h0)) (fun y hy => ?_)).symm
    obtain ⟨j, hj, rfl⟩ := mem_at (p.mem_iff.2 hy)
    exact hh.top j hj
theorem tail_perm {l m : List It} (hh : Heap l) (p : l.Perm m) : l.tail.Perm (m.erase (tp m)) := by
  rw [← heap_top hh p]
  cases hl : l with
  | nil =>
    subst hl
    obtain rfl := p.symm.eq_nil
    exact List.Perm.refl _
  | cons x l' =>
    have : at_ (x :: l') 0 = x := rfl
    rw [this, List.tail_cons]
    have h2 := p.erase x
    rw [hl, List.erase_cons_head] at h2
    exact h2
theorem but_perm {l m : List It} (p : l.Perm m) (key : Int) : (but l key).Perm (but m key) := p.filter _
/-- The pile at block g is the bag m. -/
def Is (W : World) (B g : Nat) (m : List It) (K : Nat) (F : Nat → Prop) : Prop := ∃ l, PileF.Good W B g l K F ∧ l.Perm m
theorem Is.below {W W1 : World} {B g K : Nat} {m : List It} {F : Nat → Prop} (h : Is W B g m K F) (hb : Below W.heap.size W W1) : Is W1 B g m K F := by
  obtain ⟨l, h1, h2⟩ := h
  exact ⟨l, h1.below hb, h2⟩
theorem Is.other {W W1 : World} {B g K : Nat} {m : List It} {F F1 : Nat → Prop} (h : Is W B g m K F) (ht : Turn W W1 F1) (hd : ∀ k, F k → ¬ F1 k) : Is W1 B g m K F := by
  obtain ⟨l, h1, h2⟩ := h
  exact ⟨l, h1.other ht hd, h2⟩
theorem Is.foot {W : World} {B g K : Nat} {m : List It} {F : Nat → Prop} (h : Is W B g m K F) : ∀ k, F k → B ≤ k ∧ k < W.heap.size := by
  obtain ⟨l, h1, h2⟩ := h
  exact h1.foot
theorem Is.uniq {W : World} {B g K : Nat} {m : List It} {F : Nat → Prop} (h : Is W B g m K F) : Uniq m := by
  obtain ⟨l, ⟨look, _, hk, _⟩, h2⟩ := h
  exact (keyed_uniq hk).perm h2
theorem Is.wf {W : World} {B g K : Nat} {m : List It} {F : Nat → Prop} (h : Is W B g m K F) : ∀ x ∈ m, (Lit.int .i64 x.1).wf = true := by
  obtain ⟨l, h1, h2⟩ := h
  exact fun x hx => good_wf h1 x (h2.mem_iff.2 hx)
theorem Is.mono {W : World} {B g K : Nat} {m m' : List It} {F : Nat → Prop} (h : Is W B g m K F) (p : m.Perm m') : Is W B g m' K F := by
  obtain ⟨l, h1, h2⟩ := h
  exact ⟨l, h1, h2.trans p⟩
/-- A row of the reference stays when a pile is turned. -/
theorem Is.R38 {W W1 : World} {B g K b : Nat} {m : List It} {F : Nat → Prop} {v : Value} {q : List S38} (h : Is W B g m K F) (hR : Kd.R k38 38 W b (fun _ => True) v q) (ht : Turn W W1 F) : Kd.R k38 38 W1 b (fun _ => True) v q := by
  obtain ⟨l, ⟨look, h1, _⟩, _⟩ := h
  exact R38_turn hR h1 ht
theorem new_m (w : World) (B : Nat) (hB : B ≤ w.heap.size) : Calls Try.prog 9 #[] w fun e w' => ∃ (g : Nat) (F : Nat → Prop), e = .returned (.pointer (some ⟨g, 0, none⟩)) ∧ Hid (Is w' B g [] 0 F) ∧ Hid (∀ k, F k → w.heap.size ≤ k) ∧ Hid (Below w.heap.size w w') := by
  refine (new_c w B hB).mono ?_
  rintro e w' ⟨g, F, rfl, h1, h2, h3⟩
  exact ⟨g, F, rfl, ⟨[], h1.out, List.Perm.refl _⟩, h2, h3⟩
theorem len_m (W : World) (B g : Nat) (m : List It) (K : Nat) (F : Nat → Prop) (h : Is W B g m K F) : Calls Try.prog 12 #[.pointer (some ⟨g, 0, none⟩)] W fun e w' => e = .returned (.int .i64 (m.length : Int)) ∧ Drawn0 W w' := by
  obtain ⟨l, h1, h2⟩ := h
  rw [← h2.length_eq]
  exact len_c W B g l K F h1
theorem peek_m (W : World) (B g : Nat) (m : List It) (K : Nat) (F : Nat → Prop) (h : Is W B g m K F) : Calls Try.prog 22 #[.pointer (some ⟨g, 0, none⟩)] W fun e w' => e = .returned (.tuple #[.int .i64 (tp m).1, .int .i64 (tp m).2, .bool (decide (0 < m.length))]) ∧ Drawn0 W w' := by
  obtain ⟨l, h1, h2⟩ := h
  have hh := h1
  obtain ⟨look, _, _, hh⟩ := hh
  have := peek_c W B g l K F h1
  rw [heap_top hh h2, h2.length_eq] at this
  exact this
theorem rank_m (W : World) (B g : Nat) (m : List It) (K : Nat) (F : Nat → Prop) (h : Is W B g m K F) (key : Int) (hw : (Lit.int .i64 key).wf = true) :
    Calls Try.prog 13 #[.pointer (some ⟨g, 0, none⟩), .int .i64 key] W fun e w' => e = .returned (.tuple #[.int .i64 (((find m key).map Prod.snd).getD 0), .bool (find m key).isSome]) ∧ Below W.heap.size W w' := by
  obtain ⟨l, h1, h2⟩ := h
  have hu := h1
  obtain ⟨look, _, hk, _⟩ := hu
  rw [← find_perm (keyed_uniq hk) h2]
  exact rank_g W B g l K F h1 key hw
theorem push_m (W : World) (B g : Nat) (hB : B ≤ W.heap.size) (m : List It) (hl : m.length < 1000) (K : Nat) (hK : Hid (K + 5000 < maxLen)) (F : Nat → Prop) (h : Is W B g m K F) (key rank : Int) (hw : (Lit.int .i64 key).wf = true) :
    Calls Try.prog 10 #[.pointer (some ⟨g, 0, none⟩), .int .i64 key, .int .i64 rank] W fun e w' => e = .returned (.bool (find m key).isNone) ∧ ∃ (K' : Nat) (F' : Nat → Prop), Hid (Is w' B g (if (find m key).isNone = true then m ++ [(key, rank)] else m) K' F') ∧ K' ≤ K + 5000 ∧ Hid (Turn W w' F) ∧ Hid (∀ k, F' k → F k ∨ W.heap.size ≤ k) := by
  obtain ⟨l, h1, h2⟩ := h
  have hu := h1
  obtain ⟨look, _, hk, _⟩ := hu
  have hf := find_perm (keyed_uniq hk) h2 key
  refine (push_g W B g hB l (by rw [h2.length_eq]; exact hl) K hK F h1 key rank hw).mono ?_
  rw [hf]
  rintro e w' ⟨rfl, l', K', F', e1, e2, e3, e4, e5⟩
  refine ⟨rfl, K', F', ⟨l', e1.out, e2.out.trans ?_⟩, e3, e4, e5⟩
  split
  · exact h2.append_right _
  · exact h2
theorem move_m (W : World) (B g : Nat) (m : List It) (hl : m.length ≤ 1000) (K : Nat) (hK : Hid (K + 5000 < maxLen)) (F : Nat → Prop) (h : Is W B g m K F) (key rank : Int) (hw : (Lit.int .i64 key).wf = true) :
    Calls Try.prog 17 #[.pointer (some ⟨g, 0, none⟩), .int .i64 key, .int .i64 rank] W fun e w' => e = .returned (.bool (find m key).isSome) ∧ ∃ (K' : Nat), Hid (Is w' B g (if (find m key).isSome = true then but m key ++ [(key, rank)] else m) K' F) ∧ K' ≤ K + 5000 ∧ Hid (Turn W w' F) := by
  obtain ⟨l, h1, h2⟩ := h
  have hu := h1
  obtain ⟨look, _, hk, _⟩ := hu
  have hf := find_perm (keyed_uniq hk) h2 key
  refine (move_g W B g l (by rw [h2.length_eq]; exact hl) K hK F h1 key rank hw).mono ?_
  rw [hf]
  rintro e w' ⟨rfl, l', K', e1, e2, e3, e4⟩
  refine ⟨rfl, K', ⟨l', e1.out, e2.out.trans ?_⟩, e3, e4⟩
  split
  · exact (but_perm h2 key).append_right _
  · exact h2
theorem drop_m (W : World) (B g : Nat) (m : List It) (hl : m.length ≤ 1000) (K : Nat) (hK : Hid (K + 5000 < maxLen)) (F : Nat → Prop) (h : Is W B g m K F) (key : Int) (hw : (Lit.int .i64 key).wf = true) :
    Calls Try.prog 18 #[.pointer (some ⟨g, 0, none⟩), .int .i64 key] W fun e w' => e = .returned (.bool (find m key).isSome) ∧ ∃ (K' : Nat), Hid (Is w' B g (but m key) K' F) ∧ K' ≤ K + 5000 ∧ Hid (Turn W w' F) := by
  obtain ⟨l, h1, h2⟩ := h
  have hu := h1
  obtain ⟨look, _, hk, _⟩ := hu
  have hf := find_perm (keyed_uniq hk) h2 key
  refine (drop_g W B g l (by rw [h2.length_eq]; exact hl) K hK F h1 key hw).mono ?_
  rw [hf]
  rintro e w' ⟨rfl, l', K', e1, e2, e3, e4⟩
  exact ⟨rfl, K', ⟨l', e1.out, e2.out.trans (but_perm h2 key)⟩, e3, e4⟩
theorem pop_m (W : World) (B g : Nat) (m : List It) (hl : m.length ≤ 1000) (K : Nat) (hK : Hid (K + 5000 < maxLen)) (F : Nat → Prop) (h : Is W B g m K F) :
    Calls Try.prog 11 #[.pointer (some ⟨g, 0, none⟩)] W fun e w' => e = .returned (.tuple #[.int .i64 (tp m).1, .int .i64 (tp m).2, .bool (decide (0 < m.length))]) ∧ ∃ (K' : Nat), Hid (Is w' B g (m.erase (tp m)) K' F) ∧ K' ≤ K + 5000 ∧ Hid (Turn W w' F) := by
  obtain ⟨l, h1, h2⟩ := h
  have hu := h1
  obtain ⟨look, _, hk, hh⟩ := hu
  refine (pop_g W B g l (by rw [h2.length_eq]; exact hl) K hK F h1).mono ?_
  rw [heap_top hh h2, h2.length_eq]
  rintro e w' ⟨rfl, l', K', e1, e2, e3, e4⟩
  exact ⟨rfl, K', ⟨l', e1.out, e2.out.trans (tail_perm hh h2)⟩, e3, e4⟩
end Go.Proofs.Ytdeefnhpechaiaa.PileI
