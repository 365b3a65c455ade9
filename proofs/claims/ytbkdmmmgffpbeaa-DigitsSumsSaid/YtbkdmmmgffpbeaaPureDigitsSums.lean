/- The law DigitsSums of layer 1, over the closed forms of its functions: true at every input. -/
import Derived.Test.YtbkdmmmgffpbeaaDigM
import Derived.OpenShut
namespace Go.Proofs.Ytbkdmmmgffpbeaa.Pure
open Go.RowKit Go.Proofs.Ytbkdmmmgffpbeaa.Q Go.Proofs.YtbkdmmmgffpbeaaW.PrintWords Go.Proofs.YtbkdmmmgffpbeaaW.PrintLast Go.Proofs.Ytbkdmmmgffpbeaa.Dec Go.Proofs.Ytbkdmmmgffpbeaa.DigA Go.Proofs.Ytbkdmmmgffpbeaa.DigM
theorem DigitsSums : horariumlaw01_DigitsSums.Pure := by
  intro a b h0 h1
  have b0 : fits a := bounds_i64 h0
  have b1 : fits b := bounds_i64 h1
  refine Ev.rounds (g := fun k => horariumlaw01_DigitsSums.f k a b) ?_
  unfold horariumlaw01_DigitsSums.f
  refine Ev.bind (Ev.eq (add_eq a b b0 b1)) (Ev.bind (Ev.eq (refAdd_eq a b b0 b1)) (Ev.bind (mul_ev a b b0 b1) (Ev.bind (Ev.eq (refMul_eq a b b0 b1)) ?_)))
  exact Ev.ite_t rfl (Ev.ite_t (by simp) (Ev.ite_t rfl (Ev.ite_t (by simp) (Ev.bind heads_ev (Ev.now _)))))
end Go.Proofs.Ytbkdmmmgffpbeaa.Pure
