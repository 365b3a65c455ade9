/- Sums and products of layer 1 in closed form. -/
import Derived.Test.YtbkdmmmgffpbeaaDigA
namespace Go.Proofs.Ytbkdmmmgffpbeaa.DigM
open Go.RowKit Go.Proofs.YtbkdmmmgffpbeaaW.PrintWords Go.Proofs.YtbkdmmmgffpbeaaW.PrintLast Go.Proofs.Ytbkdmmmgffpbeaa.Dec Go.Proofs.Ytbkdmmmgffpbeaa.DigA Go.Proofs.Ytbkdmmmgffpbeaa.Q
abbrev fits (x : Int) : Prop := -9223372036854775808 ≤ x ∧ x ≤ 9223372036854775807
def tell (x : Int) : Int × Bool := if fits x then (x, true) else (0, false)
theorem add_eq (a b : Int) (ha : fits a) (hb : fits b) : digits_Add.f a b = some (tell (a + b)) := by
  unfold digits_Add.f tell
  unfold fits at *
  by_cases h : -9223372036854775808 ≤ a + b ∧ a + b ≤ 9223372036854775807
  · rw [if_pos h, wrap64_in h.1 h.2]
    by_cases h1 : ((decide (a + b > a)) != (decide (b > 0))) = true
    · have : ¬ (a + b > a ↔ b > 0) := by
        intro h2
        simp [h2] at h1
      omega
    · rw [if_neg h1]
  · rw [if_neg h]
    by_cases h1 : ((decide (wrap64 (a + b) > a)) != (decide (b > 0))) = true
    · rw [if_pos h1, if_neg (by omega)]
    · have h2 : (wrap64 (a + b) > a ↔ b > 0) := by
        simpa using h1
      unfold wrap64 at h2
      omega
theorem refAdd_eq (a b : Int) (ha : fits a) (hb : fits b) : horariumref01_Add.f a b = some (tell (a + b)) := by
  unfold horariumref01_Add.f tell
  unfold fits at *
  by_cases h : -9223372036854775808 ≤ a + b ∧ a + b ≤ 9223372036854775807
  · rw [if_pos h, wrap64_in h.1 h.2]
    by_cases h1 : b > 0
    · rw [if_pos h1, wrap64_in (x := 9223372036854775807 - b) (by omega) (by omega), if_neg (by omega), if_neg (by omega)]
    · rw [if_neg h1]
      by_cases h2 : b < 0
      · rw [if_pos h2, wrap64_in (x := -9223372036854775808 - b) (by omega) (by omega), if_neg (by omega)]
      · rw [if_neg h2]
  · rw [if_neg h]
    by_cases h1 : b > 0
    · rw [if_pos h1, wrap64_in (x := 9223372036854775807 - b) (by omega) (by omega), if_pos (by omega)]
    · rw [if_neg h1]
      by_cases h2 : b < 0
      · rw [if_pos h2, wrap64_in (x := -9223372036854775808 - b) (by omega) (by omega), if_pos (by omega)]
      · omega
theorem wrap64_fits (x : Int) : fits (wrap64 x) := by
  unfold fits wrap64
  omega
theorem tdiv_back (a b : Int) (ha : fits a) (hb : fits b) (h0 : b ≠ 0) (hn : ¬ fits (a * b)) (h : wrap64 (Int.tdiv (wrap64 (a * b)) b) = a) : b = -1 ∧ a = -9223372036854775808 := by
  have hw := wrap64_fits (a * b)
  have he : ∃ m : Int, wrap64 (a * b) = a * b + 18446744073709551616 * m := by
    refine ⟨-((a * b + 9223372036854775808) / 18446744073709551616), ?_⟩
    unfold wrap64
    omega
  obtain ⟨m, hm⟩ := he
  have hm0 : m ≠ 0 := by
    rintro rfl
    rw [Int.mul_zero, Int.add_zero] at hm
    exact hn (hm ▸ hw)
  generalize wrap64 (a * b) = n at *
  have h1 := Int.tmod_add_mul_tdiv n b
  have h2 : (Int.tmod n b).natAbs < b.natAbs := by
    rw [Int.natAbs_tmod]
    exact Nat.mod_lt _ (by omega)
  have h3 : (Int.tdiv n b).natAbs ≤ n.natAbs := by
    rw [Int.natAbs_tdiv]
    exact Nat.div_le_self _ _
  generalize Int.tdiv n b = q at *
  generalize Int.tmod n b = t at *
  unfold fits at *
  by_cases hq : q = 9223372036854775808
  · subst hq
    unfold wrap64 at h
    omega
  · have : wrap64 q = q := wrap64_in (by omega) (by omega)
    rw [this] at h
    subst h
    rw [Int.mul_comm] at h1
    omega
theorem mul_ev (a b : Int) (ha : fits a) (hb : fits b) : Ev (fun k => digits_Mul.f k a b) (tell (a * b)) := by
  unfold digits_Mul.f
  by_cases h : a = 0
  · subst h
    refine Ev.ite_t rfl ?_
    rw [Int.zero_mul]
    exact Ev.step (f := fun _ => some (0, true)) (fun k => by rw [digits_Mul.j0, if_pos rfl]) (Ev.now _)
  · refine Ev.ite_f h ?_
    by_cases h0 : b = 0
    · subst h0
      rw [Int.mul_zero]
      exact Ev.step (f := fun _ => some (0, true)) (fun k => by rw [digits_Mul.j0, if_pos (by rfl)]) (Ev.now _)
    · have hb0 : (b == 0) = false := by simpa using h0
      rw [hb0]
      refine Ev.step (f := fun _ => some (tell (a * b))) (fun k => ?_) (Ev.now _)
      rw [digits_Mul.j0, if_neg (by simp), if_neg h0]
      unfold tell
      by_cases hf : fits (a * b)
      · have hw : wrap64 (a * b) = a * b := wrap64_in hf.1 hf.2
        rw [if_pos hf, hw, Int.mul_tdiv_cancel _ h0, wrap64_in ha.1 ha.2, if_pos rfl]
        by_cases h1 : a = -1
        · subst h1
          rw [if_pos rfl]
          by_cases h2 : b = -9223372036854775808
          · subst h2
            unfold fits at hf
            omega
          · rw [if_neg h2]
            by_cases h3 : b = -1
            · rw [if_pos h3, if_neg (by omega)]
            · rw [if_neg h3]
        · rw [if_neg h1]
          by_cases h3 : b = -1
          · subst h3
            rw [if_pos rfl]
            by_cases h4 : a = -9223372036854775808
            · subst h4
              unfold fits at hf
              omega
            · rw [if_neg h4]
          · rw [if_neg h3]
      · rw [if_neg hf]
        by_cases hd : wrap64 (Int.tdiv (wrap64 (a * b)) b) = a
        · obtain ⟨rfl, rfl⟩ := tdiv_back a b ha hb h0 hf hd
          rw [if_pos hd, if_neg (by omega), if_pos rfl, if_pos rfl]
        · rw [if_neg hd]
theorem refMul_eq (a b : Int) (ha : fits a) (hb : fits b) : horariumref01_Mul.f a b = some (tell (a * b)) := by
  unfold horariumref01_Mul.f
  rw [refSize_eq a ha.1 ha.2, refSize_eq b hb.1 hb.2]
  simp only [Option.bind_some]
  have hx : a = a.natAbs ∨ a = -(a.natAbs : Int) := Int.natAbs_eq a
  have hy : b = b.natAbs ∨ b = -(b.natAbs : Int) := Int.natAbs_eq b
  have hxb : a.natAbs ≤ 9223372036854775808 := by unfold fits at ha; omega
  have hm : (a * b).natAbs = a.natAbs * b.natAbs := Int.natAbs_mul a b
  have key : ∀ M : Nat, M ≤ 9223372036854775808 → a.natAbs ≠ 0 → ((b.natAbs : Int) > IntKind.u64.wrap (Int.tdiv (M : Int) (a.natAbs : Int)) ↔ M < (a * b).natAbs) := by
    intro M hM h0
    rw [Int.tdiv_eq_ediv_of_nonneg (by omega)]
    have hle : M / a.natAbs ≤ M := Nat.div_le_self _ _
    rw [show ((M : Int) / (a.natAbs : Int)) = ((M / a.natAbs : Nat) : Int) from rfl, hm, Nat.mul_comm, ← Nat.div_lt_iff_lt_mul (by omega)]
    generalize M / a.natAbs = q at hle
    rw [u64_wrap (by omega) (by omega)]
    omega
  have hz : a.natAbs = 0 → a * b = 0 := by
    intro h
    rw [show a = 0 from by omega, Int.zero_mul]
  by_cases hs : ((decide (a < 0)) != (decide (b < 0))) = true
  · rw [if_pos hs]
    have hs2 : (a < 0 ∧ ¬ b < 0) ∨ (¬ a < 0 ∧ b < 0) := by
      by_cases h1 : a < 0 <;> by_cases h2 : b < 0 <;> simp [h1, h2] at hs ⊢
    have hneg : a * b ≤ 0 := by
      rcases hx with hx | hx <;> rcases hy with hy | hy
      · omega
      · rw [hx, hy, Int.mul_neg]
        have : (0 : Int) ≤ (a.natAbs : Int) * (b.natAbs : Int) := Int.mul_nonneg (by omega) (by omega)
        omega
      · rw [hx, hy, Int.neg_mul]
        have : (0 : Int) ≤ (a.natAbs : Int) * (b.natAbs : Int) := Int.mul_nonneg (by omega) (by omega)
        omega
      · by_cases ha0 : a = 0
        · rw [ha0, Int.zero_mul]; omega
        · rw [show b = 0 by omega, Int.mul_zero]; omega
    unfold tell fits
    by_cases h0 : (a.natAbs : Int) = 0
    · rw [if_pos h0, hz (by omega), if_pos (by omega)]
      simp [wrap64]
    · rw [if_neg h0]
      have hk := key 9223372036854775808 (Nat.le_refl _) (by omega)
      by_cases h1 : (b.natAbs : Int) > IntKind.u64.wrap (Int.tdiv (9223372036854775808 : Int) (a.natAbs : Int))
      · have := hk.1 h1
        rw [if_pos h1, if_neg (by omega)]
      · have h2 : ¬ 9223372036854775808 < (a * b).natAbs := fun h => h1 (hk.2 h)
        rw [if_neg h1, if_pos (by omega), wrap64_in (by omega) (by omega)]
  · rw [if_neg hs]
    have hs2 : (a < 0 ↔ b < 0) := by simpa using hs
    have hpos : 0 ≤ a * b := by
      rcases hx with hx | hx <;> rcases hy with hy | hy
      · rw [hx, hy]; exact Int.mul_nonneg (by omega) (by omega)
      · rw [show b = 0 by omega, Int.mul_zero]; omega
      · rw [show a = 0 by omega, Int.zero_mul]; omega
      · rw [hx, hy, Int.neg_mul_neg]; exact Int.mul_nonneg (by omega) (by omega)
    unfold tell fits
    by_cases h0 : (a.natAbs : Int) = 0
    · rw [if_pos h0, hz (by omega), if_pos (by omega)]
      simp [wrap64]
    · rw [if_neg h0]
      have hk := key 9223372036854775807 (by omega) (by omega)
      by_cases h1 : (b.natAbs : Int) > IntKind.u64.wrap (Int.tdiv (9223372036854775807 : Int) (a.natAbs : Int))
      · have := hk.1 h1
        rw [if_pos h1, if_neg (by omega)]
      · have h2 : ¬ 9223372036854775807 < (a * b).natAbs := fun h => h1 (hk.2 h)
        rw [if_neg h1, if_pos (by omega), wrap64_in (by omega) (by omega)]
end Go.Proofs.Ytbkdmmmgffpbeaa.DigM
