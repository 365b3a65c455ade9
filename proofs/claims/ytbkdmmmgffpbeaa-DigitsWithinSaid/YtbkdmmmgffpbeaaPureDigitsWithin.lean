/- The law DigitsWithin of layer 1, over the closed forms of its functions: true at every input. -/
import Derived.Test.YtbkdmmmgffpbeaaDigM
import Derived.OpenShut
namespace Go.Proofs.Ytbkdmmmgffpbeaa.Pure
open Go.RowKit Go.Proofs.Ytbkdmmmgffpbeaa.Q Go.Proofs.YtbkdmmmgffpbeaaW.PrintWords Go.Proofs.YtbkdmmmgffpbeaaW.PrintLast Go.Proofs.Ytbkdmmmgffpbeaa.Dec Go.Proofs.Ytbkdmmmgffpbeaa.DigA Go.Proofs.Ytbkdmmmgffpbeaa.DigM
theorem ps_none (l : List Nat) (h : ¬ (ps l).2 = 0) : (ps l).1 = 0 := by
  unfold ps at h ⊢
  by_cases h1 : l.headD 0 = 45
  · simp only [if_pos h1] at h ⊢
    by_cases h2 : Sh l.tail = true
    · simp only [if_pos h2] at h ⊢
      by_cases h3 : val l.tail = 0
      · simp only [if_pos h3]
      · simp only [if_neg h3] at h ⊢
        by_cases h4 : val l.tail ≤ 9223372036854775808
        · simp only [if_pos h4] at h
          exact absurd trivial h
        · simp only [if_neg h4]
    · simp only [if_neg h2]
  · simp only [if_neg h1] at h ⊢
    by_cases h2 : Sh l = true
    · simp only [if_pos h2] at h ⊢
      by_cases h3 : val l ≤ 9223372036854775807
      · simp only [if_pos h3] at h
        exact absurd trivial h
      · simp only [if_neg h3]
    · simp only [if_neg h2]
def wi (l : List Nat) (low high : Int) : Int × Int := if (ps l).2 = 0 then (if (ps l).1 < low then (0, 6) else if (ps l).1 > high then (0, 6) else ((ps l).1, 0)) else (0, (ps l).2)
theorem within_ev (s : ByteArray) (hs : s.size ≤ 140737488351232) (low high : Int) : Ev (fun k => digits_Within.f k s low high) (wi (N s) low high) := by
  unfold digits_Within.f wi
  refine Ev.bind (parse_ev s hs) ?_
  by_cases h : (ps (N s)).2 = 0
  · by_cases h1 : (ps (N s)).1 < low
    · exact Ev.ite_t h (Ev.ite_t h1 (Ev.eq (by rw [if_pos h, if_pos h1])))
    · by_cases h2 : (ps (N s)).1 > high
      · exact Ev.ite_t h (Ev.ite_f h1 (Ev.ite_t h2 (Ev.eq (by rw [if_pos h, if_neg h1, if_pos h2]))))
      · exact Ev.ite_t h (Ev.ite_f h1 (Ev.ite_f h2 (Ev.eq (by rw [if_pos h, if_neg h1, if_neg h2]))))
  · exact Ev.ite_f h (Ev.eq (by rw [if_neg h]))
theorem refWithin_ev (s : ByteArray) (hs : s.size ≤ 140737488351232) (low high : Int) : Ev (fun k => horariumref01_Within.f k s low high) (wi (N s) low high) := by
  unfold horariumref01_Within.f wi
  refine Ev.bind (refParse_ev s hs) ?_
  by_cases h : (ps (N s)).2 = 0
  · by_cases h1 : (ps (N s)).1 < low
    · exact Ev.ite_t h (Ev.ite_t h1 (Ev.eq (by rw [if_pos h, if_pos h1])))
    · by_cases h2 : (ps (N s)).1 > high
      · exact Ev.ite_t h (Ev.ite_f h1 (Ev.ite_t h2 (Ev.eq (by rw [if_pos h, if_neg h1, if_pos h2]))))
      · exact Ev.ite_t h (Ev.ite_f h1 (Ev.ite_f h2 (Ev.eq (by rw [if_pos h, if_neg h1, if_neg h2, h]))))
  · exact Ev.ite_f h (Ev.eq (by rw [if_neg h, ps_none _ h]))
theorem DigitsWithin : horariumlaw01_DigitsWithin.Pure := by
  intro s low high h0 h1 h2
  refine Ev.rounds (g := fun k => horariumlaw01_DigitsWithin.f k s low high) ?_
  unfold horariumlaw01_DigitsWithin.f
  exact Ev.bind (within_ev s h0 low high) (Ev.bind (refWithin_ev s h0 low high) (Ev.ite_t rfl (Ev.ite_t rfl (Ev.bind heads_ev (Ev.now _)))))
end Go.Proofs.Ytbkdmmmgffpbeaa.Pure
