/- The law DigitsOrder of layer 1, over the closed forms of its functions: true at every input. -/
import Derived.Test.YtbkdmmmgffpbeaaDigM
import Derived.OpenShut
namespace Go.Proofs.Ytbkdmmmgffpbeaa.Pure
open Go.RowKit Go.Proofs.Ytbkdmmmgffpbeaa.Q Go.Proofs.YtbkdmmmgffpbeaaW.PrintWords Go.Proofs.YtbkdmmmgffpbeaaW.PrintLast Go.Proofs.Ytbkdmmmgffpbeaa.Dec Go.Proofs.Ytbkdmmmgffpbeaa.DigA Go.Proofs.Ytbkdmmmgffpbeaa.DigM
theorem DigitsOrder : horariumlaw01_DigitsOrder.Pure := by
  intro a0 a1 h0 h1
  have b0 := bounds_u64 h0
  have b1 := bounds_u64 h1
  obtain ⟨m, rfl⟩ := Int.eq_ofNat_of_zero_le b0.1
  obtain ⟨n, rfl⟩ := Int.eq_ofNat_of_zero_le b1.1
  obtain ⟨s, hs, hsN⟩ := word_eq m (by omega)
  obtain ⟨t, ht, htN⟩ := word_eq n (by omega)
  have ho := dec_order m n
  refine Ev.rounds (g := fun k => horariumlaw01_DigitsOrder.f k m n) ?_
  unfold horariumlaw01_DigitsOrder.f
  refine Ev.bind (Ev.eq hs) (Ev.bind (Ev.eq ht) ?_)
  rw [bytesLess_N, ← N_length s, ← N_length t, hsN, htN]
  by_cases h1 : (dec m).length < (dec n).length
  · refine Ev.ite_t (by omega) (Ev.ite_t ?_ (Ev.bind heads_ev (Ev.now _)))
    rw [beq_true, decide_eq_true_eq]
    have := ho.2 (.inl h1)
    omega
  · refine Ev.ite_f (by omega) ?_
    by_cases h2 : (dec m).length = (dec n).length
    · refine Ev.ite_t (by omega) (Ev.ite_t ?_ (Ev.bind heads_ev (Ev.now _)))
      rw [beq_iff_eq, decide_eq_decide]
      constructor
      · intro hx
        rcases ho.1 (by omega) with h3 | h3
        · exact absurd h3 h1
        · exact h3.2
      · intro hx
        have := ho.2 (.inr ⟨h2, hx⟩)
        omega
    · refine Ev.ite_f (by omega) (Ev.ite_t ?_ (Ev.bind heads_ev (Ev.now _)))
      rw [beq_false, Bool.not_eq_true', decide_eq_false_iff_not]
      intro hx
      rcases ho.1 (by omega) with h3 | h3
      · exact h1 h3
      · exact h2 h3.1
end Go.Proofs.Ytbkdmmmgffpbeaa.Pure
