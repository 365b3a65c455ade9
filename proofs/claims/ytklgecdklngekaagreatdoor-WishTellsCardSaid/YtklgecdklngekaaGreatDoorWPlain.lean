/- The plain laws behind WishTells: the two answers to 'which wishes may be' agree, and so do the two to 'the same'. -/
import Derived.Test.YtklgecdklngekaaGreatDoorWRight
import Derived.Test.YtklgecdklngekaaGreatDoorQx
import Derived.IntWalk
namespace Go.Proofs.YtklgecdklngekaaGreatDoor.WPlain
set_option linter.unusedVariables false
set_option linter.unusedSimpArgs false
open Go.RowKit Go.Proofs.YtklgecdklngekaaGreatDoorW.PrintWords Go.Proofs.YtklgecdklngekaaGreatDoorW.PrintLast Go.Proofs.YtklgecdklngekaaGreatDoor.Q Go.Proofs.YtklgecdklngekaaGreatDoor.WRight
theorem rd_at (l : List Int) (i : Nat) (h : i < l.length) : rd l (i : Int) = l[i] := by
  unfold rd
  simp [h]
theorem w64 (i : Nat) (h : i < 4000000) : wrap64 ((i : Int) + 1) = ((i + 1 : Nat) : Int) := by
  unfold wrap64
  omega
theorem equal_l (l m : List Int) (hl : l.length = m.length) (h : l.length ≤ 1000) : ∀ d i : Nat, i + d = l.length → slices_Equal_int_int.l0 (d + 1) l m (l.length : Int) (i : Int) = some (decide (l.drop i = m.drop i)) := by
  intro d
  induction d with
  | zero =>
    intro i hi
    unfold slices_Equal_int_int.l0
    rw [if_neg (by omega), List.drop_eq_nil_of_le (by omega), List.drop_eq_nil_of_le (by omega)]
    rfl
  | succ d ih =>
    intro i hi
    have h1 : i < l.length := by omega
    have h2 : i < m.length := by omega
    unfold slices_Equal_int_int.l0
    rw [if_pos (by omega), if_pos (by omega), if_pos (by omega), if_pos (by omega), List.drop_eq_getElem_cons h1, List.drop_eq_getElem_cons h2, rd_at l i h1, rd_at m i h2, w64 i (by omega), ih (i + 1) (by omega)]
    by_cases e : l[i] = m[i]
    · rw [if_pos e]; congr 1; exact decide_eq_decide.2 (by rw [List.cons.injEq]; exact ⟨fun h => ⟨e, h⟩, fun h => h.2⟩)
    · rw [if_neg e]; congr 1; exact (decide_eq_false (by rw [List.cons.injEq]; exact fun h => e h.1)).symm
theorem equal_v (l m : List Int) (h : l.length ≤ 1000) : slices_Equal_int_int.f 1001 l m = some (decide (l = m)) := by
  unfold slices_Equal_int_int.f
  by_cases hl : l.length = m.length
  · rw [if_pos (by omega)]
    have h1 := equal_l l m hl h l.length 0 (by omega)
    have h2 : ∀ k d, slices_Equal_int_int.l0 k l m (l.length : Int) 0 = some d → ∀ j, slices_Equal_int_int.l0 (k + j) l m (l.length : Int) 0 = some d := by
      intro k d hk j
      induction j with
      | zero => exact hk
      | succ j ih => exact slices_Equal_int_int.mono_l (k + j) _ _ _ _ _ ih
    have h3 := h2 _ _ h1 (1001 - (l.length + 1))
    rw [show l.length + 1 + (1001 - (l.length + 1)) = 1001 from by omega] at h3
    simpa using h3
  · rw [if_neg (by omega)]
    have : l ≠ m := fun e => hl (by rw [e])
    simp [this]
theorem ints_l (l m : List Int) (hl : l.length = m.length) (h : l.length ≤ 1000) : ∀ d i : Nat, i + d = l.length → horariumref03_Ints.l0 (d + 1) l m (i : Int) = some (decide (l.drop i = m.drop i)) := by
  intro d
  induction d with
  | zero =>
    intro i hi
    unfold horariumref03_Ints.l0
    rw [if_neg (by omega), List.drop_eq_nil_of_le (by omega), List.drop_eq_nil_of_le (by omega)]
    rfl
  | succ d ih =>
    intro i hi
    have h1 : i < l.length := by omega
    have h2 : i < m.length := by omega
    unfold horariumref03_Ints.l0
    rw [if_pos (by omega), if_pos (by omega), if_pos (by omega), List.drop_eq_getElem_cons h1, List.drop_eq_getElem_cons h2, rd_at l i h1, rd_at m i h2, w64 i (by omega), ih (i + 1) (by omega)]
    by_cases e : l[i] = m[i]
    · rw [if_pos e]; congr 1; exact decide_eq_decide.2 (by rw [List.cons.injEq]; exact ⟨fun h => ⟨e, h⟩, fun h => h.2⟩)
    · rw [if_neg e]; congr 1; exact (decide_eq_false (by rw [List.cons.injEq]; exact fun h => e h.1)).symm
theorem ints_v (l m : List Int) (h : l.length ≤ 1000) : horariumref03_Ints.f 1001 l m = some (decide (l = m)) := by
  unfold horariumref03_Ints.f
  by_cases hl : l.length = m.length
  · rw [if_pos (by omega)]
    have h1 := ints_l l m hl h l.length 0 (by omega)
    have h2 : ∀ k d, horariumref03_Ints.l0 k l m 0 = some d → ∀ j, horariumref03_Ints.l0 (k + j) l m 0 = some d := by
      intro k d hk j
      induction j with
      | zero => exact hk
      | succ j ih => exact horariumref03_Ints.mono_l (k + j) _ _ _ _ ih
    have h3 := h2 _ _ h1 (1001 - (l.length + 1))
    rw [show l.length + 1 + (1001 - (l.length + 1)) = 1001 from by omega] at h3
    simpa using h3
  · rw [if_neg (by omega)]
    have : l ≠ m := fun e => hl (by rw [e])
    simp [this]
def sameR (rk : Int) (l : List Int) (ra rb : Int) (hd : Bool) (cost : Int) (rk' : Int) (l' : List Int) (ra' rb' : Int) (hd' : Bool) (cost' : Int) : Bool := decide (rk = rk' ∧ l = l' ∧ ra = ra' ∧ rb = rb' ∧ hd = hd' ∧ cost = cost')
theorem sameRule_v (rk : Int) (l : List Int) (ra rb : Int) (hd : Bool) (cost : Int) (rk' : Int) (l' : List Int) (ra' rb' : Int) (hd' : Bool) (cost' : Int) (h : l.length ≤ 1000) :
    wish_sameRule.f 1001 rk l ra rb hd cost rk' l' ra' rb' hd' cost' = some (sameR rk l ra rb hd cost rk' l' ra' rb' hd' cost') := by
  unfold wish_sameRule.f sameR
  rw [equal_v l l' h]
  simp only [Option.bind_some]
  by_cases h1 : rk = rk' <;> by_cases h2 : l = l' <;> by_cases h3 : ra = ra' <;> by_cases h4 : rb = rb' <;> by_cases h5 : hd = hd' <;> by_cases h6 : cost = cost' <;> simp [h1, h2, h3, h4, h5, h6]
theorem rules_v (rk : Int) (l : List Int) (ra rb : Int) (hd : Bool) (cost : Int) (rk' : Int) (l' : List Int) (ra' rb' : Int) (hd' : Bool) (cost' : Int) (h : l.length ≤ 1000) :
    horariumref44_rules.f 1001 rk l ra rb hd cost rk' l' ra' rb' hd' cost' = some (sameR rk l ra rb hd cost rk' l' ra' rb' hd' cost') := by
  unfold horariumref44_rules.f sameR
  rw [ints_v l l' h]
  simp only [Option.bind_some]
  by_cases h1 : rk = rk' <;> by_cases h2 : l = l' <;> by_cases h3 : ra = ra' <;> by_cases h4 : rb = rb' <;> by_cases h5 : hd = hd' <;> by_cases h6 : cost = cost' <;> simp [h1, h2, h3, h4, h5, h6]
theorem same_v (a0 a1 a2 a3 a4 a5 a6 a7 : Int) (l : List Int) (a9 a10 : Int) (a11 : Bool) (a12 : Int) (b0 b1 b2 b3 b4 b5 b6 b7 : Int) (l' : List Int) (b9 b10 : Int) (b11 : Bool) (b12 : Int) (h : l.length ≤ 1000) :
    ∃ r, wish_Same.f 1001 a0 a1 a2 a3 a4 a5 a6 a7 l a9 a10 a11 a12 b0 b1 b2 b3 b4 b5 b6 b7 l' b9 b10 b11 b12 = some r ∧ horariumref44_Same.f 1001 a0 a1 a2 a3 a4 a5 a6 a7 l a9 a10 a11 a12 b0 b1 b2 b3 b4 b5 b6 b7 l' b9 b10 b11 b12 = some r := by
  have e : wish_Same.f 1001 a0 a1 a2 a3 a4 a5 a6 a7 l a9 a10 a11 a12 b0 b1 b2 b3 b4 b5 b6 b7 l' b9 b10 b11 b12 = horariumref44_Same.f 1001 a0 a1 a2 a3 a4 a5 a6 a7 l a9 a10 a11 a12 b0 b1 b2 b3 b4 b5 b6 b7 l' b9 b10 b11 b12 := by
    unfold wish_Same.f horariumref44_Same.f
    rw [sameRule_v _ _ _ _ _ _ _ _ _ _ _ _ h, rules_v _ _ _ _ _ _ _ _ _ _ _ _ h]
  rw [e]
  unfold horariumref44_Same.f
  rw [rules_v _ _ _ _ _ _ _ _ _ _ _ _ h]
  repeat' split
  all_goals exact ⟨_, rfl, rfl⟩
theorem same_self (a0 a1 a2 a3 a4 a5 a6 a7 : Int) (l : List Int) (a9 a10 : Int) (a11 : Bool) (a12 : Int) (h : l.length ≤ 1000) :
    wish_Same.f 1001 a0 a1 a2 a3 a4 a5 a6 a7 l a9 a10 a11 a12 a0 a1 a2 a3 a4 a5 a6 a7 l a9 a10 a11 a12 = some true := by
  unfold wish_Same.f
  rw [sameRule_v _ _ _ _ _ _ _ _ _ _ _ _ h]
  simp [sameR]
theorem bare_v (rk : Int) (l : List Int) (ra rb : Int) (hd : Bool) (cost : Int) : horariumref44_bare.f rk l ra rb hd cost = some (none_ rk l ra rb hd cost) := by
  unfold horariumref44_bare.f none_
  cases hd <;> by_cases h1 : rk = 0 <;> by_cases h2 : l = [] <;> by_cases h3 : ra = 0 <;> by_cases h4 : rb = 0 <;> by_cases h6 : cost = 0 <;> simp [h1, h2, h3, h4, h6]
theorem when_b (wk dy st ln : Int) : (!(wk == 0) || (!(dy == 0) || (!(st == 0) || (!(ln == 0))))) = !decide (wk = 0 ∧ dy = 0 ∧ st = 0 ∧ ln = 0) := by
  by_cases h1 : wk = 0 <;> by_cases h2 : dy = 0 <;> by_cases h3 : st = 0 <;> by_cases h4 : ln = 0 <;> simp [h1, h2, h3, h4]
set_option maxHeartbeats 2000000 in
theorem right_v (kind idx n wk dy st ln rk : Int) (l : List Int) (ra rb : Int) (hd : Bool) (cost : Int) :
    ∃ r1 r2 r3 r4 r5 r6, wish_formOf.f kind = some (r1, r2, r3, r4, r5, r6) ∧ horariumref44_Right.f 1 kind idx n wk dy st ln rk l ra rb hd cost = some (right r2 r3 r4 r5 r6 idx n wk dy st ln (none_ rk l ra rb hd cost)) := by
  simp only [horariumref44_Right.f, horariumref44_Right.j0, bare_v, when_b, Option.bind_some]
  generalize none_ rk l ra rb hd cost = b
  unfold right
  generalize decide (wk = 0 ∧ dy = 0 ∧ st = 0 ∧ ln = 0) = c
  rcases (by omega : kind < 1 ∨ 10 < kind ∨ kind = 1 ∨ kind = 2 ∨ kind = 3 ∨ kind = 4 ∨ kind = 5 ∨ kind = 6 ∨ kind = 7 ∨ kind = 8 ∨ kind = 9 ∨ kind = 10) with h | h | rfl | rfl | rfl | rfl | rfl | rfl | rfl | rfl | rfl | rfl
  · refine ⟨⟨#[]⟩, false, false, false, false, false, ?_, ?_⟩
    · unfold wish_formOf.f
      rw [if_neg (by omega), if_neg (by omega), if_neg (by omega), if_neg (by omega), if_neg (by omega), if_neg (by omega), if_neg (by omega), if_neg (by omega), if_neg (by omega), if_neg (by omega)]
    · rw [if_pos h]; simp
  · refine ⟨⟨#[]⟩, false, false, false, false, false, ?_, ?_⟩
    · unfold wish_formOf.f
      rw [if_neg (by omega), if_neg (by omega), if_neg (by omega), if_neg (by omega), if_neg (by omega), if_neg (by omega), if_neg (by omega), if_neg (by omega), if_neg (by omega), if_neg (by omega)]
    · rw [if_neg (by omega)]; simp [h]
  all_goals
    refine ⟨_, _, _, _, _, _, rfl, ?_⟩
    cases b <;> cases c <;> by_cases h1 : idx = 0 <;> by_cases h2 : n = 0 <;> simp [horariumref44_when.f, horariumref44_number.f, h1, h2]
end Go.Proofs.YtklgecdklngekaaGreatDoor.WPlain
