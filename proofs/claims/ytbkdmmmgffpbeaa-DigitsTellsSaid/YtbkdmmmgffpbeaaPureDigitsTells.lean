/- The law DigitsTells of layer 1, over the closed forms of its functions: true at every input. -/
import Derived.Test.YtbkdmmmgffpbeaaDigM
import Derived.OpenShut
namespace Go.Proofs.Ytbkdmmmgffpbeaa.Pure
open Go.RowKit Go.Proofs.Ytbkdmmmgffpbeaa.Q Go.Proofs.YtbkdmmmgffpbeaaW.PrintWords Go.Proofs.YtbkdmmmgffpbeaaW.PrintLast Go.Proofs.Ytbkdmmmgffpbeaa.Dec Go.Proofs.Ytbkdmmmgffpbeaa.DigA Go.Proofs.Ytbkdmmmgffpbeaa.DigM
theorem DigitsTells : horariumlaw01_DigitsTells.Pure := by
  intro a0 a1 a2 h0 h1 h2
  have b0 := bounds_i64 h0
  have b1 := bounds_u64 h1
  obtain ⟨n, rfl⟩ := Int.eq_ofNat_of_zero_le b1.1
  obtain ⟨p, hp, hpN⟩ := print_eq a0 b0.1 b0.2
  obtain ⟨q, hq, hqN⟩ := refPrint_ev a0 b0.1 b0.2
  obtain ⟨s, hs, hsN⟩ := word_eq n (by omega)
  obtain ⟨t, ht, htN⟩ := refWord_ev n (by omega)
  refine Ev.rounds (g := fun k => horariumlaw01_DigitsTells.f k a0 n a2) ?_
  unfold horariumlaw01_DigitsTells.f
  refine Ev.bind (parse_ev a2 h2) (Ev.bind (refParse_ev a2 h2) (Ev.bind (parseWord_ev a2 h2) (Ev.bind (refParseWord_ev a2 h2) (Ev.ite_t rfl (Ev.ite_t rfl (Ev.ite_t rfl (Ev.ite_t rfl ?_)))))))
  refine Ev.bind (Ev.eq hp) (Ev.bind hq (Ev.ite_t (toList_N.2 (by rw [hpN, hqN])) ?_))
  refine Ev.bind (Ev.eq hs) (Ev.bind ht (Ev.ite_t (toList_N.2 (by rw [hsN, htN])) ?_))
  exact Ev.bind heads_ev (Ev.now _)
end Go.Proofs.Ytbkdmmmgffpbeaa.Pure
