/- The law DigitsBack of layer 1, over the closed forms of its functions: true at every input. -/
import Derived.Test.YtbkdmmmgffpbeaaDigM
import Derived.OpenShut
namespace Go.Proofs.Ytbkdmmmgffpbeaa.Pure
open Go.RowKit Go.Proofs.Ytbkdmmmgffpbeaa.Q Go.Proofs.YtbkdmmmgffpbeaaW.PrintWords Go.Proofs.YtbkdmmmgffpbeaaW.PrintLast Go.Proofs.Ytbkdmmmgffpbeaa.Dec Go.Proofs.Ytbkdmmmgffpbeaa.DigA Go.Proofs.Ytbkdmmmgffpbeaa.DigM
theorem dec_headD (n : Nat) : ¬ (dec n).headD 0 = 45 := by
  have h := dec_all n
  have hp := dec_len_pos n
  cases he : dec n with
  | nil => rw [he] at hp; simp at hp
  | cons c l =>
    rw [he, all_cons, Bool.and_eq_true] at h
    have : 48 ≤ c ∧ c ≤ 57 := by simpa [isd] using h.1
    show ¬ c = 45
    omega
theorem ps_pr (n : Int) (h : fits n) : ps (pr n) = (n, 0) := by
  unfold ps pr
  by_cases h0 : n < 0
  · rw [if_pos h0]
    rw [if_pos (show (45 :: dec n.natAbs).headD 0 = 45 from rfl)]
    show (if Sh (dec n.natAbs) = true then (if val (dec n.natAbs) = 0 then ((0, 3) : Int × Int) else if val (dec n.natAbs) ≤ 9223372036854775808 then (-(val (dec n.natAbs) : Int), 0) else (0, 6)) else (0, 3)) = _
    rw [if_pos (dec_Sh _), dec_val, if_neg (by omega), if_pos (by omega)]
    congr 1
    omega
  · rw [if_neg h0, if_neg (dec_headD _), if_pos (dec_Sh _), dec_val, if_pos (by omega)]
    congr 1
    omega
theorem pr_ps (l : List Nat) (h : (ps l).2 = 0) : pr (ps l).1 = l ∧ fits (ps l).1 := by
  unfold ps at h ⊢
  by_cases h1 : l.headD 0 = 45
  · simp only [if_pos h1] at h ⊢
    by_cases h2 : Sh l.tail = true
    · simp only [if_pos h2] at h ⊢
      by_cases h3 : val l.tail = 0
      · simp [h3] at h
      · simp only [if_neg h3] at h ⊢
        by_cases h4 : val l.tail ≤ 9223372036854775808
        · simp only [if_pos h4]
          unfold pr
          refine ⟨?_, by omega, by omega⟩
          rw [if_pos (by omega), Int.natAbs_neg, Int.natAbs_natCast, dec_of_val h2]
          cases l with
          | nil => simp at h1
          | cons c l => simp at h1; rw [h1]; rfl
        · simp [h4] at h
    · simp [h2] at h
  · simp only [if_neg h1] at h ⊢
    by_cases h2 : Sh l = true
    · simp only [if_pos h2] at h ⊢
      by_cases h3 : val l ≤ 9223372036854775807
      · simp only [if_pos h3]
        unfold pr
        refine ⟨?_, by omega, by omega⟩
        rw [if_neg (by omega), Int.natAbs_natCast, dec_of_val h2]
      · simp [h3] at h
    · simp [h2] at h
theorem pw_dec (n : Nat) (h : n < 18446744073709551616) : pw (dec n) = ((n : Int), 0) := by
  unfold pw
  rw [if_pos (dec_Sh _), dec_val, if_pos h]
theorem dec_pw (l : List Nat) (h : (pw l).2 = 0) : ∃ n : Nat, n < 18446744073709551616 ∧ (pw l).1 = (n : Int) ∧ dec n = l := by
  unfold pw at h ⊢
  by_cases h2 : Sh l = true
  · simp only [if_pos h2] at h ⊢
    by_cases h3 : val l < 18446744073709551616
    · simp only [if_pos h3]
      exact ⟨val l, h3, rfl, dec_of_val h2⟩
    · simp [h3] at h
  · simp [h2] at h
theorem back_j1 (a2 : ByteArray) (h2 : a2.size ≤ 140737488351232) : Ev (fun k => horariumlaw01_DigitsBack.j1 k a2 false) true := by
  refine Ev.step (f := fun k => ((digits_ParseWord.f k a2).bind fun bt153 => (if bt153.2 = 0 then ((digits_Word.f bt153.1).bind fun t155 => (if t155.toList = a2.toList then ((horariumlaw01_heads.f k).bind fun t156 => (some t156)) else (some false))) else ((horariumlaw01_heads.f k).bind fun t157 => (some t157))))) (fun k => by rw [horariumlaw01_DigitsBack.j1, if_neg (by simp)]) ?_
  refine Ev.bind (parseWord_ev a2 h2) ?_
  by_cases h : (pw (N a2)).2 = 0
  · refine Ev.ite_t h ?_
    obtain ⟨n, hn, he, hd⟩ := dec_pw _ h
    obtain ⟨s, hs, hsN⟩ := word_eq n hn
    rw [he]
    exact Ev.bind (Ev.eq hs) (Ev.ite_t (toList_N.2 (by rw [hsN, hd])) (Ev.bind heads_ev (Ev.now _)))
  · exact Ev.ite_f h (Ev.bind heads_ev (Ev.now _))
theorem back_j0 (a2 : ByteArray) (h2 : a2.size ≤ 140737488351232) : Ev (fun k => horariumlaw01_DigitsBack.j0 k a2 false) true := by
  refine Ev.step (f := fun k => ((digits_Parse.f k a2).bind fun bt150 => (if bt150.2 = 0 then ((digits_Print.f bt150.1).bind fun t152 => (horariumlaw01_DigitsBack.j1 k a2 (t152.toList != a2.toList))) else (horariumlaw01_DigitsBack.j1 k a2 false)))) (fun k => by rw [horariumlaw01_DigitsBack.j0, if_neg (by simp)]) ?_
  refine Ev.bind (parse_ev a2 h2) ?_
  by_cases h : (ps (N a2)).2 = 0
  · refine Ev.ite_t h ?_
    obtain ⟨he, hf⟩ := pr_ps _ h
    obtain ⟨s, hs, hsN⟩ := print_eq (ps (N a2)).1 hf.1 hf.2
    refine Ev.bind (Ev.eq hs) ?_
    have : (s.toList != a2.toList) = false := by rw [bne_eq_false_iff_eq, toList_N, hsN, he]
    rw [this]
    exact back_j1 a2 h2
  · exact Ev.ite_f h (back_j1 a2 h2)
theorem DigitsBack : horariumlaw01_DigitsBack.Pure := by
  intro a0 a1 a2 h0 h1 h2
  have b0 := bounds_i64 h0
  have b1 := bounds_u64 h1
  obtain ⟨n, rfl⟩ := Int.eq_ofNat_of_zero_le b1.1
  obtain ⟨p, hp, hpN⟩ := print_eq a0 b0.1 b0.2
  obtain ⟨s, hs, hsN⟩ := word_eq n (by omega)
  have hpl : p.size ≤ 21 := by
    rw [← N_length, hpN]
    unfold pr
    have := dec_len_20 (n := a0.natAbs) (by omega)
    split
    · simp only [List.length_cons]; omega
    · omega
  have hsl : s.size ≤ 20 := by rw [← N_length, hsN]; exact dec_len_20 (by omega)
  have e1 := parse_ev p (by omega)
  rw [hpN, ps_pr a0 b0] at e1
  have e2 := parseWord_ev s (by omega)
  rw [hsN, pw_dec n (by omega)] at e2
  refine Ev.rounds (g := fun k => horariumlaw01_DigitsBack.f k a0 n a2) ?_
  unfold horariumlaw01_DigitsBack.f
  refine Ev.bind (Ev.eq hp) (Ev.bind e1 (Ev.bind (Ev.eq hs) (Ev.bind e2 (Ev.ite_t rfl (Ev.ite_t rfl (Ev.ite_t rfl ?_))))))
  have : (((n : Int), (0 : Int)).1 != (n : Int)) = false := by simp
  rw [this]
  exact back_j0 a2 h2
end Go.Proofs.Ytbkdmmmgffpbeaa.Pure
