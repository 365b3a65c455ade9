/- The law DigitsRing of layer 1, over the closed forms of its functions: true at every input. -/
import Derived.Test.YtbkdmmmgffpbeaaDigM
import Derived.OpenShut
namespace Go.Proofs.Ytbkdmmmgffpbeaa.Pure
open Go.RowKit Go.Proofs.Ytbkdmmmgffpbeaa.Q Go.Proofs.YtbkdmmmgffpbeaaW.PrintWords Go.Proofs.YtbkdmmmgffpbeaaW.PrintLast Go.Proofs.Ytbkdmmmgffpbeaa.Dec Go.Proofs.Ytbkdmmmgffpbeaa.DigA Go.Proofs.Ytbkdmmmgffpbeaa.DigM
theorem tell_in {x : Int} (h : fits x) : tell x = (x, true) := by unfold tell; rw [if_pos h]
theorem tell_out {x : Int} (h : ¬ fits x) : tell x = (0, false) := by unfold tell; rw [if_neg h]
theorem ring_j0 (a b x : Int) (p : Bool) (ha : fits a) (hx : p = true → x = a + b) : Ev (fun k => horariumlaw01_DigitsRing.j0 k a b x p false) true := by
  have f1 : fits (1 : Int) := by unfold fits; omega
  have f0 : fits (0 : Int) := by unfold fits; omega
  have e1 := mul_ev a 1 ha f1
  have e2 := add_eq a 0 ha f0
  rw [Int.mul_one, tell_in ha] at e1
  rw [Int.add_zero, tell_in ha] at e2
  refine Ev.step (f := fun k => _) (fun k => by rw [horariumlaw01_DigitsRing.j0, if_neg (by simp)]) ?_
  refine Ev.bind e1 (Ev.bind (Ev.eq e2) (Ev.ite_t rfl (Ev.ite_t rfl (Ev.ite_t rfl (Ev.ite_t rfl ?_)))))
  cases p with
  | false => exact Ev.ite_f (by simp) (Ev.bind heads_ev (Ev.now _))
  | true =>
    have hx := hx rfl
    refine Ev.ite_t rfl ?_
    by_cases h1 : b > 0
    · exact Ev.ite_t h1 (Ev.ite_t (by omega) (Ev.bind heads_ev (Ev.now _)))
    · refine Ev.ite_f h1 ?_
      by_cases h2 : b < 0
      · exact Ev.ite_t h2 (Ev.ite_t (by omega) (Ev.bind heads_ev (Ev.now _)))
      · exact Ev.ite_f h2 (Ev.ite_t (by omega) (Ev.ite_t (by omega) (Ev.bind heads_ev (Ev.now _))))
theorem DigitsRing : horariumlaw01_DigitsRing.Pure := by
  intro a b h0 h1
  have b0 : fits a := bounds_i64 h0
  have b1 : fits b := bounds_i64 h1
  have e2 := add_eq b a b1 b0
  have e4 := mul_ev b a b1 b0
  rw [Int.add_comm] at e2
  rw [Int.mul_comm] at e4
  refine Ev.rounds (g := fun k => horariumlaw01_DigitsRing.f k a b) ?_
  unfold horariumlaw01_DigitsRing.f
  refine Ev.bind (Ev.eq (add_eq a b b0 b1)) (Ev.bind (Ev.eq e2) (Ev.bind (mul_ev a b b0 b1) (Ev.bind e4 (Ev.ite_t rfl (Ev.ite_f (by simp) (Ev.ite_t rfl (Ev.ite_f (by simp) ?_)))))))
  by_cases hs : fits (a + b)
  · rw [tell_in hs]
    refine Ev.ite_t rfl ?_
    by_cases hm : fits (a * b)
    · rw [tell_in hm]
      exact Ev.ite_t rfl (ring_j0 a b _ true b0 (fun _ => rfl))
    · rw [tell_out hm]
      exact Ev.ite_f (by simp) (ring_j0 a b _ true b0 (fun _ => rfl))
  · rw [tell_out hs]
    refine Ev.ite_f (by simp) (Ev.ite_t rfl ?_)
    by_cases hm : fits (a * b)
    · rw [tell_in hm]
      exact Ev.ite_t rfl (ring_j0 a b _ false b0 (fun h => by cases h))
    · rw [tell_out hm]
      exact Ev.ite_f (by simp) (ring_j0 a b _ false b0 (fun h => by cases h))
end Go.Proofs.Ytbkdmmmgffpbeaa.Pure
