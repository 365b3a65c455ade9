/- What the reference's functions of layer 7 come to, on a row in which no key stands twice: closed forms. -/
import Derived.Test.YtdeefnhpechaiaaPileM
namespace Go.Proofs.Ytdeefnhpechaiaa.PileR
set_option linter.unusedVariables false
open Go.RowKit Go.Maps Go.Proofs.YtdeefnhpechaiaaW.PrintWords Go.Proofs.YtdeefnhpechaiaaW.PrintLast Go.Proofs.YtdeefnhpechaiaaW.PrintMore Go.Proofs.Ytdeefnhpechaiaa.PileP Go.Proofs.Ytdeefnhpechaiaa.PileC Go.Proofs.Ytdeefnhpechaiaa.PileH Go.Proofs.Ytdeefnhpechaiaa.PileI Go.Proofs.Ytdeefnhpechaiaa.PileJ Go.Proofs.Ytdeefnhpechaiaa.PileK Go.Proofs.Ytdeefnhpechaiaa.PileM Go.Proofs.Ytdeefnhpechaiaa.Q
theorem Ev.eq {α : Type} {x : Option α} {r : α} (h : x = some r) : Ev (fun _ => x) r := ⟨0, fun _ _ => h⟩
def mk38 (x : It) : S38 := ⟨x.1, x.2⟩
theorem lenm (l : List It) : (l.map mk38).length = l.length := List.length_map ..
theorem rd38 (l : List It) (i : Nat) (x : It) (h : l[i]? = some x) : rd_T38 (l.map mk38) (i : Int) = mk38 x := by
  unfold rd_T38
  simp [List.getD_eq_getElem?_getD, h]
theorem wrap_small {x : Int} (h0 : 0 ≤ x) (h1 : x ≤ 9223372036854775807) : wrap64 x = x := by
  unfold wrap64; omega
theorem but_idx {l : List It} (hu : Uniq l) {i : Nat} {x : It} (h : l[i]? = some x) : but l x.1 = l.eraseIdx i := by
  induction l generalizing i with
  | nil => simp at h
  | cons z m ih =>
    have h' := List.nodup_cons.1 (show (z.1 :: m.map Prod.fst).Nodup from hu)
    cases i with
    | zero =>
      obtain rfl : z = x := by simpa using h
      have : (m.filter fun y => decide (y.1 ≠ z.1)) = m := by
        rw [List.filter_eq_self]
        intro y hy
        have : y.1 ≠ z.1 := fun e => h'.1 (List.mem_map.2 ⟨y, hy, e⟩)
        simpa using this
      unfold but
      rw [List.filter_cons_of_neg (by simp), this]
      rfl
    | succ i =>
      have h2 : m[i]? = some x := by simpa using h
      have hx : x ∈ m := List.mem_of_getElem? h2
      have hz : z.1 ≠ x.1 := fun e => h'.1 (List.mem_map.2 ⟨x, hx, e.symm⟩)
      have := ih h'.2 h2
      unfold but at this ⊢
      rw [List.filter_cons_of_pos (by simpa using hz), this]
      rfl
theorem erase_idx {l : List It} (hu : Uniq l) {i : Nat} {x : It} (h : l[i]? = some x) : l.erase x = l.eraseIdx i := by
  induction l generalizing i with
  | nil => simp at h
  | cons z m ih =>
    have h' := List.nodup_cons.1 (show (z.1 :: m.map Prod.fst).Nodup from hu)
    cases i with
    | zero =>
      obtain rfl : z = x := by simpa using h
      rw [List.erase_cons_head]
      rfl
    | succ i =>
      have h2 : m[i]? = some x := by simpa using h
      have hx : x ∈ m := List.mem_of_getElem? h2
      have hz : z ≠ x := fun e => h'.1 (List.mem_map.2 ⟨x, hx, by rw [e]⟩)
      rw [List.erase_cons_tail (by simpa using hz), ih h'.2 h2]
      rfl
/-- a key's place -/
def place (l : List It) (key : Int) : Option Nat := l.findIdx? fun x => decide (x.1 = key)
def placeI (l : List It) (key : Int) : Int := match place l key with | some i => (i : Int) | none => -1
theorem place_spec {l : List It} (hu : Uniq l) (key : Int) : (∃ i x, place l key = some i ∧ l[i]? = some x ∧ x.1 = key ∧ find l key = some x) ∨ (place l key = none ∧ find l key = none) := by
  unfold place
  cases h : l.findIdx? (fun x => decide (x.1 = key)) with
  | some i =>
    obtain ⟨hi, hp, _⟩ := List.findIdx?_eq_some_iff_getElem.1 h
    have hk : l[i].1 = key := by simpa using hp
    exact .inl ⟨i, l[i], rfl, List.getElem?_eq_getElem hi, hk, by rw [← hk]; exact find_mem hu (List.getElem_mem hi)⟩
  | none =>
    refine .inr ⟨rfl, ?_⟩
    rcases find_spec l key with ⟨x, _, hx, hk⟩ | ⟨e, _⟩
    · have := List.findIdx?_eq_none_iff.1 h x hx
      simp [hk] at this
    · exact e
theorem find_ev (l : List It) (hl : l.length ≤ 4000000) (key : Int) : Ev (fun k => horariumref07_Find.f k (l.map mk38) key) (placeI l key) := by
  unfold horariumref07_Find.f
  suffices h : ∀ (d i : Nat), l.length - i = d → (∀ j x, j < i → l[j]? = some x → x.1 ≠ key) → Ev (fun k => horariumref07_Find.l0 k (l.map mk38) key (i : Int)) (placeI l key) from h l.length 0 (by omega) (fun j x h => by omega)
  intro d
  induction d with
  | zero =>
    intro i hd hp
    have hn : placeI l key = -1 := by
      unfold placeI place
      cases h : l.findIdx? (fun x => decide (x.1 = key)) with
      | none => rfl
      | some j =>
        obtain ⟨hj, hq, _⟩ := List.findIdx?_eq_some_iff_getElem.1 h
        exact absurd (by simpa using hq) (hp j l[j] (by omega) (List.getElem?_eq_getElem hj))
    rw [hn]
    refine Ev.step (f := fun _ => some (-1)) (fun k => ?_) (Ev.now _)
    rw [horariumref07_Find.l0, if_neg (by rw [lenm]; omega)]
  | succ d ih =>
    intro i hd hp
    have hi : i < l.length := by omega
    have hx : l[i]? = some l[i] := List.getElem?_eq_getElem hi
    have e1 : wrap64 ((i : Int) + 1) = ((i + 1 : Nat) : Int) := by rw [wrap_small (by omega) (by omega)]; omega
    by_cases he : l[i].1 = key
    · have hn : placeI l key = (i : Int) := by
        unfold placeI place
        rw [List.findIdx?_eq_some_iff_getElem.2 ⟨hi, by simpa using he, fun j hji => by simpa using hp j l[j] hji (List.getElem?_eq_getElem (by omega))⟩]
      rw [hn]
      refine Ev.step (f := fun _ => some (i : Int)) (fun k => ?_) (Ev.now _)
      rw [horariumref07_Find.l0, if_pos (by rw [lenm]; omega), if_pos (by omega), rd38 l i _ hx, if_pos (show (mk38 l[i]).f0 = key from he)]
    · refine Ev.step (f := fun k => horariumref07_Find.l0 k (l.map mk38) key ((i + 1 : Nat) : Int)) (fun k => ?_) (ih (i + 1) (by omega) (fun j x hj hx2 => ?_))
      · conv => lhs; rw [horariumref07_Find.l0]
        rw [if_pos (by rw [lenm]; omega), if_pos (by omega), rd38 l i _ hx, if_neg (show ¬ (mk38 l[i]).f0 = key from he), e1]
      · by_cases hji : j = i
        · subst hji
          rw [hx] at hx2
          injection hx2 with hx2
          rw [← hx2]; exact he
        · exact hp j x (by omega) hx2
theorem without_eq (l : List It) (hl : l.length ≤ 4000000) (i : Nat) (hi : i < l.length) : horariumref07_Without.f (l.map mk38) (i : Int) = some ((l.eraseIdx i).map mk38) := by
  have e1 : wrap64 ((i : Int) + 1) = ((i + 1 : Nat) : Int) := by rw [wrap_small (by omega) (by omega)]; omega
  have hL := lenm l
  have he : (l.eraseIdx i).map mk38 = ([] ++ (l.map mk38).take i) ++ (l.map mk38).drop (i + 1) := by
    rw [List.eraseIdx_eq_take_drop_succ]
    simp
  rw [he]
  generalize l.map mk38 = m at hL ⊢
  unfold horariumref07_Without.f
  simp only [Option.bind_some, e1, Int.toNat_natCast]
  rw [if_pos (by omega), if_pos (by omega), if_pos (by simp only [List.length_nil, List.length_take]; omega), if_pos (by omega), if_pos (by omega), if_pos (by simp only [List.length_nil, List.length_append, List.length_take, List.length_drop]; omega)]
theorem push_ev (l : List It) (hu : Uniq l) (hl : l.length ≤ 4000000) (key rank : Int) : Ev (fun k => horariumref07_Push.f k (l.map mk38) key rank) ((if (find l key).isNone = true then l ++ [(key, rank)] else l).map mk38, (find l key).isNone) := by
  unfold horariumref07_Push.f
  refine Ev.bind (find_ev l hl key) ?_
  have hL := lenm l
  rcases place_spec hu key with ⟨i, x, h1, h2, h3, h4⟩ | ⟨h1, h2⟩
  · have hp : placeI l key = (i : Int) := by unfold placeI; rw [h1]
    rw [hp, h4]
    refine Ev.eq ?_
    rw [if_pos (by omega), if_neg (by simp)]
    rfl
  · have hp : placeI l key = -1 := by unfold placeI; rw [h1]
    rw [hp, h2]
    refine Ev.eq ?_
    rw [if_neg (by omega), if_pos (show (none : Option It).isNone = true from rfl), List.map_append]
    simp only [Option.bind_some]
    rw [if_pos (by simp only [List.length_nil]; omega), if_pos (by simp only [List.length_nil, List.length_append]; omega), List.nil_append]
    rfl
theorem move_ev (l : List It) (hu : Uniq l) (hl : l.length ≤ 4000000) (key rank : Int) : Ev (fun k => horariumref07_Move.f k (l.map mk38) key rank) ((if (find l key).isSome = true then but l key ++ [(key, rank)] else l).map mk38, (find l key).isSome) := by
  unfold horariumref07_Move.f
  refine Ev.bind (find_ev l hl key) ?_
  have hL := lenm l
  rcases place_spec hu key with ⟨i, x, h1, h2, h3, h4⟩ | ⟨h1, h2⟩
  · have hp : placeI l key = (i : Int) := by unfold placeI; rw [h1]
    have hi : i < l.length := (List.getElem?_eq_some_iff.1 h2).1
    have hb := but_idx hu h2
    have hle : (l.eraseIdx i).length ≤ l.length := by rw [List.length_eraseIdx]; split <;> omega
    rw [h3] at hb
    rw [hp, h4, hb]
    refine Ev.eq ?_
    rw [if_neg (by omega), without_eq l hl i hi]
    simp only [Option.bind_some]
    rw [if_pos (by rw [lenm]; omega), if_pos (show (some x).isSome = true from rfl), List.map_append]
    rfl
  · have hp : placeI l key = -1 := by unfold placeI; rw [h1]
    rw [hp, h2]
    refine Ev.eq ?_
    rw [if_pos (by omega), if_neg (by simp)]
    rfl
theorem top_ev (l : List It) (hl : l.length ≤ 4000000) (hne : l ≠ []) : ∃ n : Nat, l[n]? = some (tp l) ∧ Ev (fun k => horariumref07_Top.f k (l.map mk38)) (n : Int) := by
  unfold horariumref07_Top.f
  suffices h : ∀ (r : List It) (i j : Nat) (cur : It), l.drop i = r → l[j]? = some cur → ∃ n : Nat, l[n]? = some (r.foldl (fun a b => if above b a = true then b else a) cur) ∧ Ev (fun k => horariumref07_Top.l0 k (l.map mk38) (j : Int) (i : Int)) (n : Int) by
    cases hl2 : l with
    | nil => exact absurd hl2 hne
    | cons x m =>
      rw [← hl2]
      have h0 : l[0]? = some x := by rw [hl2]; rfl
      obtain ⟨n, h1, h2⟩ := h m 1 0 x (by rw [hl2]; rfl) h0
      refine ⟨n, by rw [h1, hl2]; rfl, ?_⟩
      have e1 : wrap64 ((0 : Int) + 1) = ((1 : Nat) : Int) := by rw [wrap_small (by omega) (by omega)]; rfl
      refine Ev.step (f := fun k => horariumref07_Top.l0 k (l.map mk38) ((0 : Nat) : Int) ((1 : Nat) : Int)) (fun k => ?_) h2
      conv => lhs; rw [horariumref07_Top.l0]
      rw [if_pos (by rw [lenm, hl2, List.length_cons]; omega), if_pos (by omega), e1]
      rfl
  intro r
  induction r with
  | nil =>
    intro i j cur hd hj
    have := List.drop_eq_nil_iff.1 hd
    refine ⟨j, hj, Ev.step (f := fun _ => some (j : Int)) (fun k => ?_) (Ev.now _)⟩
    rw [horariumref07_Top.l0, if_neg (by rw [lenm]; omega)]
  | cons y r ih =>
    intro i j cur hd hj
    have hi : i < l.length := by
      rcases Nat.lt_or_ge i l.length with h | h
      · exact h
      · rw [List.drop_of_length_le h] at hd; cases hd
    have hy : l[i]? = some y := by
      have := List.getElem?_drop (xs := l) (i := i) (j := 0)
      rw [hd] at this
      simpa using this.symm
    have hr : l.drop (i + 1) = r := by
      have := List.drop_drop (i := 1) (j := i) (l := l)
      rw [hd] at this
      simpa [Nat.add_comm] using this.symm
    have hjl : j < l.length := (List.getElem?_eq_some_iff.1 hj).1
    have e1 : wrap64 ((i : Int) + 1) = ((i + 1 : Nat) : Int) := by rw [wrap_small (by omega) (by omega)]; omega
    rw [List.foldl_cons]
    by_cases ha : above y cur = true
    · rw [if_pos ha]
      obtain ⟨n, h1, h2⟩ := ih (i + 1) i y hr hy
      refine ⟨n, h1, Ev.step (f := fun k => horariumref07_Top.l0 k (l.map mk38) (i : Int) ((i + 1 : Nat) : Int)) (fun k => ?_) h2⟩
      conv => lhs; rw [horariumref07_Top.l0]
      rw [if_pos (by rw [lenm]; omega), if_neg (by omega), if_pos (by omega), if_pos (by omega), if_pos (by rw [lenm]; omega), rd38 l i _ hy, rd38 l j _ hj, e1]
      rcases above_iff.1 ha with h | ⟨h, h'⟩
      · rw [if_pos (show (mk38 y).f1 < (mk38 cur).f1 from h)]
      · rw [if_neg (show ¬ (mk38 y).f1 < (mk38 cur).f1 from by show ¬ y.2 < cur.2; omega), if_pos (show (mk38 y).f1 = (mk38 cur).f1 from h), if_pos (show (mk38 y).f0 < (mk38 cur).f0 from h')]
    · rw [if_neg ha]
      obtain ⟨n, h1, h2⟩ := ih (i + 1) j cur hr hj
      refine ⟨n, h1, Ev.step (f := fun k => horariumref07_Top.l0 k (l.map mk38) (j : Int) ((i + 1 : Nat) : Int)) (fun k => ?_) h2⟩
      conv => lhs; rw [horariumref07_Top.l0]
      rw [if_pos (by rw [lenm]; omega), if_neg (by omega), if_pos (by omega), if_pos (by omega), if_pos (by rw [lenm]; omega), rd38 l i _ hy, rd38 l j _ hj, e1]
      have ha' := above_f.1 (Bool.eq_false_iff.2 ha)
      rw [if_neg (show ¬ (mk38 y).f1 < (mk38 cur).f1 from by show ¬ y.2 < cur.2; omega)]
      by_cases hq : y.2 = cur.2
      · rw [if_pos (show (mk38 y).f1 = (mk38 cur).f1 from hq), if_neg (show ¬ (mk38 y).f0 < (mk38 cur).f0 from by show ¬ y.1 < cur.1; omega)]
      · rw [if_neg (show ¬ (mk38 y).f1 = (mk38 cur).f1 from hq)]
end Go.Proofs.Ytdeefnhpechaiaa.PileR
