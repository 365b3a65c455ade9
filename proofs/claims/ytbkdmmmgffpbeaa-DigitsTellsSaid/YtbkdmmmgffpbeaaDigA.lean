/- What the functions of layer 1 (digits) and of its reference come to, in closed form: plain Lean over the printed functions. -/
import Derived.Test.YtbkdmmmgffpbeaaDec
import Derived.Test.YtbkdmmmgffpbeaaQx5
namespace Go.Proofs.Ytbkdmmmgffpbeaa.DigA
open Go.RowKit Go.Proofs.YtbkdmmmgffpbeaaW.PrintWords Go.Proofs.YtbkdmmmgffpbeaaW.PrintLast Go.Proofs.Ytbkdmmmgffpbeaa.Dec Go.Proofs.Ytbkdmmmgffpbeaa.Q
theorem all_cons (c : Nat) (l : List Nat) : (c :: l).all isd = (isd c && l.all isd) := rfl
theorem isd_lt {c : Nat} (h : c < 48) : isd c = false := by
  unfold isd
  rw [decide_eq_false (by omega : ¬ 48 ≤ c)]
  rfl
theorem isd_gt {c : Nat} (h : c > 57) : isd c = false := by
  unfold isd
  rw [decide_eq_false (by omega : ¬ c ≤ 57), Bool.and_false]
theorem isd_in {c : Nat} (h : 48 ≤ c) (h' : c ≤ 57) : isd c = true := by
  unfold isd
  rw [decide_eq_true h, decide_eq_true h']
  rfl
theorem shaped_l (s : ByteArray) (hs : s.size ≤ 140737488351232) : ∀ (rest : List Nat) (i : Nat), (N s).drop i = rest → Ev (fun k => digits_shaped.l0 k s (s.size : Int) (i : Int)) (rest.all isd) := by
  intro rest
  induction rest with
  | nil =>
    intro i h
    exact Ev.step (f := fun _ => some true) (fun k => by simp only [digits_shaped.l0]; rw [if_neg (drop_nil h)]) (Ev.now _)
  | cons c rest ih =>
    intro i h
    obtain ⟨hb, hl, hd⟩ := drop_cons h
    refine Ev.step (f := fun k => if bt s i < 48 then some false else if bt s i > 57 then some false else digits_shaped.l0 k s (s.size : Int) (wrap64 ((i : Int) + 1))) (fun k => by simp only [digits_shaped.l0]; rw [if_pos hl, if_pos (by omega), if_pos hl]) ?_
    rw [hb, wrap_succ hl hs, all_cons]
    by_cases h1 : c < 48
    · exact Ev.ite_t (by omega) (by rw [isd_lt h1]; exact Ev.now _)
    · refine Ev.ite_f (by omega) ?_
      by_cases h2 : c > 57
      · exact Ev.ite_t (by omega) (by rw [isd_gt h2]; exact Ev.now _)
      · refine Ev.ite_f (by omega) ?_
        rw [isd_in (by omega) (by omega), Bool.true_and]
        exact ih _ hd
theorem shaped_j (s : ByteArray) (hs : s.size ≤ 140737488351232) (b : Bool) : Ev (fun k => digits_shaped.j0 k s b) (!b && (N s).all isd) := by
  refine Ev.step (f := fun k => if b = true then some false else digits_shaped.l0 k s (s.size : Int) 0) (fun k => by simp only [digits_shaped.j0]) ?_
  cases b
  · refine Ev.ite_f (by simp) ?_
    rw [Bool.not_false, Bool.true_and]
    exact shaped_l s hs (N s) 0 rfl
  · exact Ev.ite_t rfl (Ev.now _)
theorem N_head {s : ByteArray} {c : Nat} {l : List Nat} (h : N s = c :: l) : bt s 0 = (c : Int) ∧ (s.size : Int) = (l.length : Int) + 1 := by
  have := bt_N s 0
  rw [h] at this
  refine ⟨this, ?_⟩
  rw [← N_length, h]
  simp
theorem shaped_ev (s : ByteArray) (hs : s.size ≤ 140737488351232) : Ev (fun k => digits_shaped.f k s) (Sh (N s)) := by
  unfold digits_shaped.f
  cases hN : N s with
  | nil =>
    refine Ev.ite_t (toList_nil.2 hN) ?_
    exact Ev.to (shaped_j s hs true) (by rfl)
  | cons c l =>
    obtain ⟨hb, hsz⟩ := N_head hN
    refine Ev.ite_f (fun h => by rw [toList_nil.1 h] at hN; cases hN) (Ev.ite_t (by omega) ?_)
    rw [hb]
    by_cases h1 : c = 48
    · subst h1
      refine Ev.ite_t rfl (Ev.to (shaped_j s hs _) ?_)
      rw [hN]
      by_cases h2 : l = []
      · subst h2
        rw [decide_eq_false (by simp at hsz; omega)]
        rfl
      · have : 0 < l.length := by
          cases l with
          | nil => exact absurd rfl h2
          | cons _ _ => simp
        rw [decide_eq_true (by omega)]
        have h3 : decide ((48 :: l).length ≤ 1) = false := decide_eq_false (by simp; omega)
        simp [Sh, h2]
    · refine Ev.ite_f (by omega) (Ev.to (shaped_j s hs _) ?_)
      rw [hN]
      simp [Sh, h1]
/-- What ParseWord comes to. -/
def pw (l : List Nat) : Int × Int := if Sh l = true then (if val l < 18446744073709551616 then ((val l : Int), 0) else (0, 6)) else (0, 3)
theorem u64_def (x : Int) : IntKind.u64.wrap x = x % 18446744073709551616 := by
  simp [IntKind.wrap, IntKind.signed, IntKind.bits]
theorem u64_wrap {x : Int} (h0 : 0 ≤ x) (h1 : x < 18446744073709551616) : IntKind.u64.wrap x = x := by
  rw [u64_def]
  omega
theorem parseWord_l (s : ByteArray) (hs : s.size ≤ 140737488351232) : ∀ (rest : List Nat) (i n : Nat), (N s).drop i = rest → rest.all isd = true → n < 18446744073709551616 →
    Ev (fun k => digits_ParseWord.l0 k s (n : Int) (s.size : Int) (i : Int)) (if valF n rest < 18446744073709551616 then ((valF n rest : Nat), 0) else (0, 6)) := by
  intro rest
  induction rest with
  | nil =>
    intro i n h _ hn
    refine Ev.step (f := fun _ => some ((n : Int), 0)) (fun k => by simp only [digits_ParseWord.l0]; rw [if_neg (drop_nil h)]) ?_
    rw [valF_nil, if_pos hn]
    exact Ev.now _
  | cons c rest ih =>
    intro i n h ha hn
    obtain ⟨hb, hl, hd⟩ := drop_cons h
    rw [all_cons, Bool.and_eq_true] at ha
    have hc : 48 ≤ c ∧ c ≤ 57 := by simpa [isd] using ha.1
    refine Ev.step (f := fun k => if (n : Int) > ((18446744073709551615 - (((bt s i) - 48) % 256)) / 10) then (some (0, 6)) else (digits_ParseWord.l0 k s (IntKind.u64.wrap ((IntKind.u64.wrap (10 * (n : Int))) + (((bt s i) - 48) % 256))) (s.size : Int) (wrap64 ((i : Int) + 1)))) (fun k => by simp only [digits_ParseWord.l0]; rw [if_pos hl, if_pos (by omega), if_pos hl]) ?_
    rw [hb, wrap_succ hl hs, valF_cons]
    rw [show ((c : Int) - 48) % 256 = ((c - 48 : Nat) : Int) from by omega]
    by_cases hg : 10 * n + (c - 48) < 18446744073709551616
    · refine Ev.ite_f (by omega) ?_
      rw [u64_wrap (x := 10 * (n : Int)) (by omega) (by omega), u64_wrap (by omega) (by omega)]
      rw [show (10 * (n : Int) + ((c - 48 : Nat) : Int)) = ((10 * n + (c - 48) : Nat) : Int) from by omega]
      exact ih _ _ hd ha.2 hg
    · refine Ev.ite_t (by omega) ?_
      have := valF_ge rest (10 * n + (c - 48))
      rw [if_neg (by omega)]
      exact Ev.now _
theorem parseWord_ev (s : ByteArray) (hs : s.size ≤ 140737488351232) : Ev (fun k => digits_ParseWord.f k s) (pw (N s)) := by
  unfold digits_ParseWord.f
  refine Ev.bind (shaped_ev s hs) ?_
  unfold pw
  by_cases h : Sh (N s) = true
  · refine Ev.ite_t h ?_
    rw [if_pos h]
    have := parseWord_l s hs (N s) 0 0 rfl (Sh_all h) (by omega)
    rw [← val_def] at this
    exact this
  · refine Ev.ite_f h ?_
    rw [if_neg h]
    exact Ev.now _
/-- What Parse comes to. -/
def ps (l : List Nat) : Int × Int :=
  if l.headD 0 = 45 then
    (if Sh l.tail = true then (if val l.tail = 0 then (0, 3) else if val l.tail ≤ 9223372036854775808 then (-(val l.tail : Int), 0) else (0, 6)) else (0, 3))
  else (if Sh l = true then (if val l ≤ 9223372036854775807 then ((val l : Int), 0) else (0, 6)) else (0, 3))
theorem wrap64_in {x : Int} (h0 : -9223372036854775808 ≤ x) (h1 : x ≤ 9223372036854775807) : wrap64 x = x := by
  unfold wrap64
  omega
theorem wrap64_neg {v : Nat} (h1 : v ≤ 9223372036854775808) : wrap64 (IntKind.u64.wrap (-(v : Int))) = -(v : Int) := by
  rw [u64_def]
  unfold wrap64
  omega
theorem extract_size (s : ByteArray) (hs : s.size ≤ 140737488351232) : (s.extract 1 s.size).size ≤ 140737488351232 := by
  rw [← N_length, N_extract, List.length_drop, N_length]
  omega
theorem parse_j (s : ByteArray) (hs : s.size ≤ 140737488351232) (b : Bool) (hb : b = false → 1 ≤ (s.size : Int)) :
    Ev (fun k => digits_Parse.j0 k s b) (if b = true then (if Sh (N s) = true then (if val (N s) ≤ 9223372036854775807 then ((val (N s) : Int), 0) else (0, 6)) else (0, 3))
      else (if Sh (N s).tail = true then (if val (N s).tail = 0 then (0, 3) else if val (N s).tail ≤ 9223372036854775808 then (-(val (N s).tail : Int), 0) else (0, 6)) else (0, 3))) := by
  cases b with
  | true =>
    refine Ev.step (f := fun k => ((digits_ParseWord.f k s).bind fun bt102 => (if bt102.2 = 0 then (if bt102.1 > 9223372036854775807 then (some (0, 6)) else (some (wrap64 (bt102.1), bt102.2))) else (some (wrap64 (bt102.1), bt102.2))))) (fun k => by rw [digits_Parse.j0, if_pos rfl]) ?_
    refine Ev.bind (parseWord_ev s hs) ?_
    rw [if_pos (rfl : true = true)]
    unfold pw
    by_cases h : Sh (N s) = true
    · rw [if_pos h, if_pos h]
      by_cases h1 : val (N s) < 18446744073709551616
      · rw [if_pos h1]
        refine Ev.ite_t rfl ?_
        by_cases h2 : val (N s) ≤ 9223372036854775807
        · refine Ev.ite_f (by first | omega | (simp only; omega)) ?_
          rw [if_pos h2]
          simp only
          rw [wrap64_in (by omega) (by omega)]
          exact Ev.now _
        · refine Ev.ite_t (by first | omega | (simp only; omega)) ?_
          rw [if_neg h2]
          exact Ev.now _
      · rw [if_neg h1]
        exact Ev.ite_f (show ¬ ((6 : Int) = 0) by omega) (Ev.eq (by rw [if_neg (by omega : ¬ val (N s) ≤ 9223372036854775807)]; simp [wrap64]))
    · rw [if_neg h, if_neg h]
      exact Ev.ite_f (show ¬ ((3 : Int) = 0) by omega) (Ev.eq (by simp [wrap64]))
  | false =>
    refine Ev.step (f := fun k => ((digits_ParseWord.f k (s.extract 1 s.size)).bind fun bt104 => (if bt104.2 = 0 then (if bt104.1 = 0 then (some (0, 3)) else (if bt104.1 > 9223372036854775808 then (some (0, 6)) else (some (wrap64 (IntKind.u64.wrap (-bt104.1)), 0)))) else (some (0, bt104.2))))) (fun k => by rw [digits_Parse.j0, if_neg (by simp), if_pos (hb rfl)]) ?_
    refine Ev.bind (parseWord_ev _ (extract_size s hs)) ?_
    rw [N_extract, List.drop_one, if_neg (show ¬ (false = true) by simp)]
    generalize (N s).tail = l
    unfold pw
    by_cases h : Sh l = true
    · rw [if_pos h, if_pos h]
      by_cases h1 : val l < 18446744073709551616
      · rw [if_pos h1]
        refine Ev.ite_t rfl ?_
        by_cases h0 : val l = 0
        · rw [if_pos h0]
          exact Ev.ite_t (by first | omega | (simp only; omega)) (Ev.now _)
        · rw [if_neg h0]
          refine Ev.ite_f (by first | omega | (simp only; omega)) ?_
          by_cases h2 : val l ≤ 9223372036854775808
          · refine Ev.ite_f (by first | omega | (simp only; omega)) ?_
            rw [if_pos h2]
            simp only
            rw [wrap64_neg h2]
            exact Ev.now _
          · refine Ev.ite_t (by first | omega | (simp only; omega)) ?_
            rw [if_neg h2]
            exact Ev.now _
      · rw [if_neg h1, if_neg (by omega : ¬ val l = 0)]
        exact Ev.ite_f (show ¬ ((6 : Int) = 0) by omega) (Ev.eq (by rw [if_neg (by omega : ¬ val l ≤ 9223372036854775808)]))
    · rw [if_neg h, if_neg h]
      exact Ev.ite_f (show ¬ ((3 : Int) = 0) by omega) (Ev.now _)
theorem parse_ev (s : ByteArray) (hs : s.size ≤ 140737488351232) : Ev (fun k => digits_Parse.f k s) (ps (N s)) := by
  unfold digits_Parse.f ps
  cases hN : N s with
  | nil =>
    refine Ev.ite_t (size_zero.2 hN) (Ev.to (parse_j s hs true (by simp)) ?_)
    rw [hN]
    rfl
  | cons c l =>
    obtain ⟨hb, hsz⟩ := N_head hN
    refine Ev.ite_f (by omega) (Ev.ite_t (by omega) (Ev.to (parse_j s hs _ (fun _ => by omega)) ?_))
    rw [hN, hb]
    by_cases h : c = 45
    · subst h
      rfl
    · rw [if_pos (show ((c : Int) != 45) = true by simp; omega), if_neg (show ¬ (c :: l).headD 0 = 45 by simpa using h)]

/-! ### Word, Print -/
theorem word_go (k n : Nat) : ∀ (m : Nat) (acc : List Nat), m ≤ n → (dec m).length ≤ k → digits_Word.go k (m : Int) (acc.map Int.ofNat) = (dec m ++ acc).map Int.ofNat := by
  induction k with
  | zero => intro m acc _ h; have := dec_len_pos m; omega
  | succ k ih =>
    intro m acc hm h
    rw [digits_Word.go]
    by_cases h1 : m < 10
    · rw [if_pos (by omega), dec_small h1]
      simp
      omega
    · rw [if_neg (by omega)]
      rw [dec_great h1] at h
      have := ih (m / 10) ((48 + m % 10) :: acc) (by omega) (by simpa using h)
      rw [dec_great h1, List.append_assoc]
      rw [show ((m : Int) / 10) = ((m / 10 : Nat) : Int) from by omega]
      rw [show (48 + (m : Int) % 10) = ((48 + m % 10 : Nat) : Int) from by omega]
      exact this
theorem word_eq (n : Nat) (h : n < 18446744073709551616) : ∃ s, digits_Word.f (n : Int) = some s ∧ N s = dec n := by
  refine ⟨strOfNums ((dec n).map Int.ofNat), ?_, N_strOfNums _ (fun c hc => ?_)⟩
  · unfold digits_Word.f
    rw [if_pos (by omega), if_pos (by omega)]
    have := word_go 20 n n [] (Nat.le_refl _) (dec_len_20 h)
    rw [List.append_nil] at this
    rw [← this]
    rfl
  · have := List.all_eq_true.1 (dec_all n) c hc
    simp [isd] at this
    omega
/-- What Print comes to. -/
def pr (n : Int) : List Nat := if n < 0 then 45 :: dec n.natAbs else dec n.natAbs
theorem N_lit45 : N (⟨#[45]⟩ : ByteArray) = [45] := rfl
theorem print_eq (n : Int) (h0 : -9223372036854775808 ≤ n) (h1 : n ≤ 9223372036854775807) : ∃ s, digits_Print.f n = some s ∧ N s = pr n := by
  unfold digits_Print.f pr
  by_cases h : n < 0
  · rw [if_pos h, if_pos h]
    obtain ⟨s, hs, hN⟩ := word_eq n.natAbs (by omega)
    have e : IntKind.u64.wrap (-(IntKind.u64.wrap n)) = (n.natAbs : Int) := by
      rw [u64_def, u64_def]
      omega
    rw [e, hs]
    simp only [Option.bind_some]
    have hsz : s.size ≤ 20 := by rw [← N_length, hN]; exact dec_len_20 (by omega)
    rw [if_pos (by omega)]
    exact ⟨_, rfl, by rw [N_append, hN, N_lit45]; rfl⟩
  · rw [if_neg h, if_neg h]
    obtain ⟨s, hs, hN⟩ := word_eq n.natAbs (by omega)
    have e : IntKind.u64.wrap n = (n.natAbs : Int) := by
      rw [u64_def]
      omega
    rw [e, hs]
    exact ⟨s, rfl, hN⟩
/-! ### the reference -/
theorem form_l (s : ByteArray) (hs : s.size ≤ 140737488351232) : ∀ (rest : List Nat) (i : Nat), (N s).drop i = rest → Ev (fun k => horariumref01_form.l0 k s (i : Int)) (rest.all isd && (!(N s).isEmpty && (decide ((N s).headD 0 ≠ 48) || decide ((N s).length ≤ 1)))) := by
  intro rest
  induction rest with
  | nil =>
    intro i h
    refine Ev.step (f := fun _ => if (s.size : Int) = 1 then (some true) else (if (s.size : Int) > 1 then (if 0 < (s.size : Int) then (some ((bt s 0) != 48)) else (none)) else (some false))) (fun k => by simp only [horariumref01_form.l0]; rw [if_neg (drop_nil h)]) ?_
    cases hN : N s with
    | nil =>
      have := size_zero.2 hN
      refine Ev.ite_f (by omega) (Ev.ite_f (by omega) ?_)
      exact Ev.now _
    | cons c l =>
      obtain ⟨hb, hsz⟩ := N_head hN
      by_cases h1 : l = []
      · subst h1
        refine Ev.ite_t (by simp at hsz; omega) ?_
        exact Ev.eq (by simp)
      · have : 0 < l.length := by
          cases l with
          | nil => exact absurd rfl h1
          | cons _ _ => simp
        refine Ev.ite_f (by omega) (Ev.ite_t (by omega) (Ev.ite_t (by omega) ?_))
        rw [hb]
        refine Ev.eq (congrArg some ?_)
        have h3 : decide ((c :: l).length ≤ 1) = false := decide_eq_false (by simp; omega)
        rw [h3]
        by_cases h4 : c = 48
        · subst h4; rfl
        · have : ((c : Int) != 48) = true := by simp; omega
          rw [this]
          simp [h4]
  | cons c rest ih =>
    intro i h
    obtain ⟨hb, hl, hd⟩ := drop_cons h
    refine Ev.step (f := fun k => if bt s i < 48 then some false else if bt s i > 57 then some false else horariumref01_form.l0 k s (wrap64 ((i : Int) + 1))) (fun k => by simp only [horariumref01_form.l0]; rw [if_pos hl, if_pos (by omega)]) ?_
    rw [hb, wrap_succ hl hs, all_cons]
    by_cases h1 : c < 48
    · exact Ev.ite_t (by omega) (by rw [isd_lt h1]; exact Ev.now _)
    · refine Ev.ite_f (by omega) ?_
      by_cases h2 : c > 57
      · exact Ev.ite_t (by omega) (by rw [isd_gt h2]; exact Ev.now _)
      · refine Ev.ite_f (by omega) ?_
        rw [isd_in (by omega) (by omega), Bool.true_and]
        exact ih _ hd
theorem form_ev (s : ByteArray) (hs : s.size ≤ 140737488351232) : Ev (fun k => horariumref01_form.f k s) (Sh (N s)) := by
  have := form_l s hs (N s) 0 rfl
  unfold Sh
  rw [Bool.and_assoc]
  exact this
theorem refParseWord_l (s : ByteArray) (hs : s.size ≤ 140737488351232) : ∀ (rest : List Nat) (i n : Nat), (N s).drop i = rest → rest.all isd = true → valF n rest < 18446744073709551616 →
    Ev (fun k => horariumref01_ParseWord.l0 k s (n : Int) (i : Int)) ((valF n rest : Nat), 0) := by
  intro rest
  induction rest with
  | nil =>
    intro i n h _ hn
    exact Ev.step (f := fun _ => some ((n : Int), 0)) (fun k => by simp only [horariumref01_ParseWord.l0]; rw [if_neg (drop_nil h)]) (Ev.now _)
  | cons c rest ih =>
    intro i n h ha hn
    obtain ⟨hb, hl, hd⟩ := drop_cons h
    rw [all_cons, Bool.and_eq_true] at ha
    have hc : 48 ≤ c ∧ c ≤ 57 := by simpa [isd] using ha.1
    refine Ev.step (f := fun k => (horariumref01_ParseWord.l0 k s (IntKind.u64.wrap ((IntKind.u64.wrap (10 * (n : Int))) + (((bt s i) - 48) % 256))) (wrap64 ((i : Int) + 1)))) (fun k => by simp only [horariumref01_ParseWord.l0]; rw [if_pos hl, if_pos (by omega)]) ?_
    rw [hb, wrap_succ hl hs]
    rw [show ((c : Int) - 48) % 256 = ((c - 48 : Nat) : Int) from by omega]
    rw [valF_cons] at hn ⊢
    have hge := valF_ge rest (10 * n + (c - 48))
    rw [u64_wrap (x := 10 * (n : Int)) (by omega) (by omega), u64_wrap (by omega) (by omega)]
    rw [show (10 * (n : Int) + ((c - 48 : Nat) : Int)) = ((10 * n + (c - 48) : Nat) : Int) from by omega]
    exact ih _ _ hd ha.2 hn
def top : List Nat := [49, 56, 52, 52, 54, 55, 52, 52, 48, 55, 51, 55, 48, 57, 53, 53, 49, 54, 49, 53]
theorem top_val : val top = 18446744073709551615 := by
  rw [val_def]; decide
theorem top_str : ([49, 56, 52, 52, 54, 55, 52, 52, 48, 55, 51, 55, 48, 57, 53, 53, 49, 54, 49, 53] : List UInt8) = (⟨#[49, 56, 52, 52, 54, 55, 52, 52, 48, 55, 51, 55, 48, 57, 53, 53, 49, 54, 49, 53]⟩ : ByteArray).toList := by
  rw [Lib.toList_data]
theorem top_N : N (⟨#[49, 56, 52, 52, 54, 55, 52, 52, 48, 55, 51, 55, 48, 57, 53, 53, 49, 54, 49, 53]⟩ : ByteArray) = top := rfl
theorem refParseWord_j (s : ByteArray) (hs : s.size ≤ 140737488351232) (b : Bool) (hSh : Sh (N s) = true) (hb : b = true ↔ 18446744073709551616 ≤ val (N s)) : Ev (fun k => horariumref01_ParseWord.j0 k s b) (pw (N s)) := by
  unfold pw
  rw [if_pos hSh]
  cases b with
  | true =>
    have := hb.1 rfl
    rw [if_neg (by omega)]
    exact Ev.step (f := fun _ => some (0, 6)) (fun k => by rw [horariumref01_ParseWord.j0, if_pos rfl]) (Ev.now _)
  | false =>
    have h : val (N s) < 18446744073709551616 := by
      rcases Nat.lt_or_ge (val (N s)) 18446744073709551616 with h | h
      · exact h
      · exact absurd (hb.2 h) (by simp)
    rw [if_pos h]
    refine Ev.step (f := fun k => horariumref01_ParseWord.l0 k s 0 0) (fun k => by rw [horariumref01_ParseWord.j0, if_neg (by simp)]) ?_
    have := refParseWord_l s hs (N s) 0 0 rfl (Sh_all hSh) (by rw [← val_def]; exact h)
    rw [← val_def] at this
    exact this
theorem refParseWord_ev (s : ByteArray) (hs : s.size ≤ 140737488351232) : Ev (fun k => horariumref01_ParseWord.f k s) (pw (N s)) := by
  unfold horariumref01_ParseWord.f
  refine Ev.bind (form_ev s hs) ?_
  by_cases h : Sh (N s) = true
  · refine Ev.ite_t h ?_
    have hlen := N_length s
    by_cases h1 : 20 < (N s).length
    · refine Ev.ite_t (by omega) (refParseWord_j s hs true h ⟨fun _ => ?_, fun _ => rfl⟩)
      have := val_ge h (by omega)
      have h2 : 10 ^ 20 ≤ 10 ^ ((N s).length - 1) := Nat.pow_le_pow_right (by omega) (by omega)
      have h3 : 18446744073709551616 ≤ 10 ^ 20 := by decide
      exact Nat.le_trans h3 (Nat.le_trans h2 this)
    · refine Ev.ite_f (by omega) ?_
      by_cases h2 : (N s).length = 20
      · refine Ev.ite_t (by omega) (refParseWord_j s hs _ h ?_)
        rw [top_str, bytesLess_N, top_N, Bool.not_eq_true', Bool.or_eq_false_iff, decide_eq_false_iff_not, beq_eq_false_iff_ne]
        have hl := val_lex (N s) top (Sh_all h) (by decide) (by rw [h2]; rfl)
        rw [top_val] at hl
        constructor
        · rintro ⟨h3, h4⟩
          have h5 : ¬ val (N s) = 18446744073709551615 := by
            intro h6
            have := val_inj (N s) top (Sh_all h) (by decide) (by rw [h2]; rfl) (by rw [h6, top_val])
            exact h4 (toList_N.2 (by rw [this, top_N]))
          have h6 : ¬ val (N s) < 18446744073709551615 := fun hx => h3 (hl.1 hx)
          omega
        · intro h3
          refine ⟨fun hx => ?_, fun hx => ?_⟩
          · have := hl.2 hx
            omega
          · have := toList_N.1 hx
            rw [this, top_N, top_val] at h3
            omega
      · refine Ev.ite_f (by omega) (refParseWord_j s hs false h ⟨fun hx => by simp at hx, fun hx => ?_⟩)
        have := val_lt (N s) (Sh_all h)
        have h3 : 10 ^ (N s).length ≤ 10 ^ 19 := Nat.pow_le_pow_right (by omega) (by omega)
        have h4 : 10 ^ 19 < 18446744073709551616 := by decide
        exact absurd (Nat.lt_of_lt_of_le this h3) (by intro h5; exact Nat.lt_irrefl _ (Nat.lt_of_le_of_lt hx (Nat.lt_trans h5 h4)))
  · refine Ev.ite_f h ?_
    unfold pw
    rw [if_neg h]
    exact Ev.now _
theorem wrap64_less {v : Nat} (h1 : v ≤ 9223372036854775808) : wrap64 ((-1) - (wrap64 (IntKind.u64.wrap ((v : Int) - 1)))) = -(v : Int) := by
  rw [u64_def]
  unfold wrap64
  omega
theorem refParse_j3 (b : Bool) (n : Int) (x : Bool) : Ev (fun k => horariumref01_Parse.j3 k b n x) (if x = true then (0, 6) else if b = true then (wrap64 ((-1) - (wrap64 (IntKind.u64.wrap (n - 1)))), 0) else (wrap64 n, 0)) := by
  cases x
  · cases b
    · exact Ev.step (f := fun _ => some (wrap64 n, 0)) (fun k => by rw [horariumref01_Parse.j3, if_neg (by simp), if_neg (by simp)]) (Ev.now _)
    · exact Ev.step (f := fun _ => some _) (fun k => by rw [horariumref01_Parse.j3]; rfl) (Ev.now _)
  · exact Ev.step (f := fun _ => some (0, 6)) (fun k => by rw [horariumref01_Parse.j3, if_pos rfl]) (Ev.now _)
theorem refParse_j2 (b : Bool) (n e : Int) (x : Bool) : Ev (fun k => horariumref01_Parse.j2 k b n e x)
    (if x = true then (0, 3) else if e = 6 then (0, 6) else if b = true then (if n > 9223372036854775808 then (0, 6) else (wrap64 ((-1) - (wrap64 (IntKind.u64.wrap (n - 1)))), 0)) else (if n > 9223372036854775807 then (0, 6) else (wrap64 n, 0))) := by
  cases x
  · refine Ev.step (f := fun k => (if e = 6 then (horariumref01_Parse.j3 k b n true) else (if b = true then (horariumref01_Parse.j3 k b n (decide (n > 9223372036854775808))) else (if n > 9223372036854775807 then (horariumref01_Parse.j3 k b n true) else (horariumref01_Parse.j3 k b n false))))) (fun k => by rw [horariumref01_Parse.j2, if_neg (by simp)]) ?_
    by_cases h : e = 6
    · exact Ev.ite_t h (Ev.to (refParse_j3 b n true) (by simp [h]))
    · refine Ev.ite_f h ?_
      cases b
      · refine Ev.ite_f (by simp) ?_
        by_cases h2 : n > 9223372036854775807
        · exact Ev.ite_t h2 (Ev.to (refParse_j3 false n true) (by simp [h, h2]))
        · exact Ev.ite_f h2 (Ev.to (refParse_j3 false n false) (by simp [h, h2]))
      · refine Ev.ite_t rfl ?_
        by_cases h2 : n > 9223372036854775808
        · exact Ev.to (refParse_j3 true n _) (by simp [h, h2])
        · exact Ev.to (refParse_j3 true n _) (by simp [h, h2])
  · exact Ev.step (f := fun _ => some (0, 3)) (fun k => by rw [horariumref01_Parse.j2, if_pos rfl]) (Ev.now _)
theorem N_lit48 : ([48] : List UInt8) = (⟨#[48]⟩ : ByteArray).toList := by
  rw [Lib.toList_data]
theorem refParse_j1 (s : ByteArray) (hs : s.size ≤ 140737488351232) (b : Bool) : Ev (fun k => horariumref01_Parse.j1 k b s)
    (if b = true then (if Sh (N s) = true then (if val (N s) = 0 then (0, 3) else if val (N s) ≤ 9223372036854775808 then (-(val (N s) : Int), 0) else (0, 6)) else (0, 3))
      else (if Sh (N s) = true then (if val (N s) ≤ 9223372036854775807 then ((val (N s) : Int), 0) else (0, 6)) else (0, 3))) := by
  refine Ev.step (f := fun k => (horariumref01_ParseWord.f k s).bind fun bt107 => (if bt107.2 = 3 then (horariumref01_Parse.j2 k b bt107.1 bt107.2 true) else (if b = true then (horariumref01_Parse.j2 k b bt107.1 bt107.2 (s.toList == ([48] : List UInt8))) else (horariumref01_Parse.j2 k b bt107.1 bt107.2 false)))) (fun k => by rw [horariumref01_Parse.j1]) ?_
  refine Ev.bind (refParseWord_ev s hs) ?_
  unfold pw
  by_cases h : Sh (N s) = true
  · simp only [if_pos h]
    have hz : (s.toList == ([48] : List UInt8)) = decide (val (N s) = 0) := by
      rw [N_lit48, Bool.eq_iff_iff, beq_iff_eq, decide_eq_true_eq, toList_N]
      constructor
      · intro he
        rw [he]
        show val [48] = 0
        rw [val_def]; rfl
      · intro hv
        refine Sh_inj h (by rfl) ?_
        rw [hv]
        show 0 = val [48]
        rw [val_def]; rfl
    rw [hz]
    by_cases h1 : val (N s) < 18446744073709551616
    · simp only [if_pos h1]
      refine Ev.ite_f (show ¬ ((0 : Int) = 3) by omega) ?_
      cases b
      · refine Ev.ite_f (by simp) (Ev.to (refParse_j2 _ _ _ _) ?_)
        rw [if_neg (show ¬ (false = true) by simp), if_neg (show ¬ ((0 : Int) = 6) by omega), if_neg (show ¬ (false = true) by simp), if_neg (show ¬ (false = true) by simp)]
        by_cases h2 : val (N s) ≤ 9223372036854775807
        · rw [if_pos h2, if_neg (by omega), wrap64_in (by omega) (by omega)]
        · rw [if_neg h2, if_pos (by omega)]
      · refine Ev.ite_t rfl (Ev.to (refParse_j2 _ _ _ _) ?_)
        by_cases h0 : val (N s) = 0
        · rw [if_pos (by simpa using h0), if_pos rfl, if_pos h0]
        · rw [if_neg (by simpa using h0), if_neg (by simp), if_pos rfl, if_pos rfl, if_neg h0]
          by_cases h2 : val (N s) ≤ 9223372036854775808
          · rw [if_pos h2, if_neg (by omega), wrap64_less h2]
          · rw [if_neg h2, if_pos (by omega)]
    · simp only [if_neg h1]
      refine Ev.ite_f (show ¬ ((6 : Int) = 3) by omega) ?_
      have h0 : ¬ val (N s) = 0 := by omega
      cases b
      · refine Ev.ite_f (by simp) (Ev.to (refParse_j2 _ _ _ _) ?_)
        rw [if_neg (by simp), if_pos rfl, if_neg (by simp), if_neg (by omega)]
      · refine Ev.ite_t rfl (Ev.to (refParse_j2 _ _ _ _) ?_)
        rw [if_neg (by simpa using h0), if_pos rfl, if_pos rfl, if_neg h0, if_neg (by omega)]
  · simp only [if_neg h]
    refine Ev.ite_t (by simp) (Ev.to (refParse_j2 _ _ _ _) ?_)
    rw [if_pos rfl]
    split <;> rfl
theorem refParse_ev (s : ByteArray) (hs : s.size ≤ 140737488351232) : Ev (fun k => horariumref01_Parse.f k s) (ps (N s)) := by
  unfold horariumref01_Parse.f ps
  cases hN : N s with
  | nil =>
    have := size_zero.2 hN
    refine Ev.ite_f (by omega) ?_
    refine Ev.step (f := fun k => horariumref01_Parse.j1 k false s) (fun k => by rw [horariumref01_Parse.j0, if_neg (by simp)]) ?_
    refine Ev.to (refParse_j1 s hs false) ?_
    rw [hN]
    rfl
  | cons c l =>
    obtain ⟨hb, hsz⟩ := N_head hN
    refine Ev.ite_t (by omega) (Ev.ite_t (by omega) ?_)
    rw [hb]
    by_cases h : c = 45
    · subst h
      refine Ev.step (f := fun k => horariumref01_Parse.j1 k true (s.extract 1 s.size)) (fun k => by rw [horariumref01_Parse.j0, if_pos (show (((45 : Nat) : Int) == 45) = true by rfl), if_pos (by omega)]; rfl) ?_
      refine Ev.to (refParse_j1 _ (extract_size s hs) true) ?_
      rw [N_extract, hN]
      rfl
    · have hc : ((c : Int) == 45) = false := by simp; omega
      rw [hc]
      refine Ev.step (f := fun k => horariumref01_Parse.j1 k false s) (fun k => by rw [horariumref01_Parse.j0, if_neg (by simp)]) ?_
      refine Ev.to (refParse_j1 s hs false) ?_
      rw [hN, if_neg (show ¬ (false = true) by simp), if_neg (show ¬ (c :: l).headD 0 = 45 by simpa using h)]
/-! ### the reference's Word and Print -/
theorem refDigit_eq (n : Nat) (h : n < 18446744073709551616) : horariumref01_digit.f (n : Int) = some (strOfNums (([48 + n % 10] : List Nat).map Int.ofNat)) := by
  unfold horariumref01_digit.f
  rw [Int.tmod_eq_emod_of_nonneg (by omega), u64_wrap (by omega) (by omega)]
  rw [show ((48 : Int) + (n : Int) % 10) % 256 = ((48 + n % 10 : Nat) : Int) from by omega]
  rfl
theorem N_dig (n : Nat) : N (strOfNums (([48 + n % 10] : List Nat).map Int.ofNat)) = [48 + n % 10] := N_strOfNums _ (by simp; omega)
theorem refWord_l (n : Nat) : ∀ (m : Nat) (acc : ByteArray), m ≤ n → m < 18446744073709551616 → N acc = [48 + m % 10] ++ (N acc).tail → acc.size + (dec m).length ≤ 100 →
    ∃ s, Ev (fun k => horariumref01_Word.l0 k (m : Int) acc) s ∧ N s = dec m ++ (N acc).tail := by
  induction n with
  | zero =>
    intro m acc hm _ hacc _
    refine ⟨acc, Ev.step (f := fun _ => some acc) (fun k => by rw [horariumref01_Word.l0, if_neg (by omega)]) (Ev.now _), ?_⟩
    rw [dec_small (by omega)]
    rw [Nat.mod_eq_of_lt (by omega)] at hacc
    exact hacc
  | succ n ih =>
    intro m acc hm hm2 hacc hsz
    by_cases h : m < 10
    · refine ⟨acc, Ev.step (f := fun _ => some acc) (fun k => by rw [horariumref01_Word.l0, if_neg (by omega)]) (Ev.now _), ?_⟩
      rw [dec_small h]
      rw [Nat.mod_eq_of_lt h] at hacc
      exact hacc
    · have e : IntKind.u64.wrap (Int.tdiv (m : Int) 10) = ((m / 10 : Nat) : Int) := by
        rw [Int.tdiv_eq_ediv_of_nonneg (by omega), u64_wrap (by omega) (by omega)]
        omega
      have hd := refDigit_eq (m / 10) (by omega)
      have hN := N_dig (m / 10)
      generalize strOfNums (([48 + m / 10 % 10] : List Nat).map Int.ofNat) = t at hd hN
      have ht : t.size = 1 := by rw [← N_length, hN]; rfl
      have hN2 : N (t ++ acc) = [48 + m / 10 % 10] ++ N acc := by rw [N_append, hN]
      have htl : (N (t ++ acc)).tail = N acc := by rw [hN2]; rfl
      have hl := dec_great h
      have hl2 : (dec m).length = (dec (m / 10)).length + 1 := by rw [hl]; simp
      obtain ⟨s, hs, hNs⟩ := ih (m / 10) (t ++ acc) (by omega) (by omega) (by rw [htl, hN2]) (by
        rw [← N_length, hN2, List.length_append, N_length]
        simp only [List.length_cons, List.length_nil]
        omega)
      refine ⟨s, ?_, ?_⟩
      · refine Ev.step (f := fun k => horariumref01_Word.l0 k ((m / 10 : Nat) : Int) (t ++ acc)) (fun k => ?_) hs
        rw [horariumref01_Word.l0, if_pos (by omega), e, hd]
        simp only [Option.bind_some]
        rw [if_pos (by omega)]
      · rw [hNs, htl, hl, List.append_assoc]
        exact congrArg _ hacc
theorem refWord_ev (n : Nat) (h : n < 18446744073709551616) : ∃ s, Ev (fun k => horariumref01_Word.f k (n : Int)) s ∧ N s = dec n := by
  have hd := refDigit_eq n h
  have hN := N_dig n
  generalize strOfNums (([48 + n % 10] : List Nat).map Int.ofNat) = t at hd hN
  have htl : (N t).tail = [] := by rw [hN]; rfl
  have ht : t.size = 1 := by rw [← N_length, hN]; rfl
  obtain ⟨s, hs, hNs⟩ := refWord_l n n t (Nat.le_refl _) h (by rw [htl, hN]; rfl) (by have := dec_len_20 h; omega)
  refine ⟨s, ?_, by rw [hNs, htl, List.append_nil]⟩
  unfold horariumref01_Word.f
  exact Ev.bind (Ev.eq hd) hs
theorem refSize_eq (n : Int) (h0 : -9223372036854775808 ≤ n) (h1 : n ≤ 9223372036854775807) : horariumref01_Size.f n = some (n.natAbs : Int) := by
  unfold horariumref01_Size.f
  by_cases h : n < 0
  · rw [if_pos h]
    refine congrArg some ?_
    rw [u64_def, u64_def]
    unfold wrap64
    omega
  · rw [if_neg h]
    refine congrArg some ?_
    rw [u64_def]
    omega
theorem refPrint_ev (n : Int) (h0 : -9223372036854775808 ≤ n) (h1 : n ≤ 9223372036854775807) : ∃ s, Ev (fun k => horariumref01_Print.f k n) s ∧ N s = pr n := by
  unfold horariumref01_Print.f pr
  obtain ⟨s, hs, hN⟩ := refWord_ev n.natAbs (by omega)
  by_cases h : n < 0
  · have hsz : s.size ≤ 20 := by rw [← N_length, hN]; exact dec_len_20 (by omega)
    refine ⟨⟨#[45]⟩ ++ s, ?_, ?_⟩
    · exact Ev.ite_t h (Ev.bind (Ev.eq (refSize_eq n h0 h1)) (Ev.bind hs (Ev.ite_t (by omega) (Ev.now _))))
    · rw [if_pos h, N_append, hN, N_lit45]; rfl
  · refine ⟨s, ?_, ?_⟩
    · exact Ev.ite_f h (Ev.bind (Ev.eq (refSize_eq n h0 h1)) (Ev.bind hs (Ev.now _)))
    · rw [if_neg h, hN]
theorem heads_ev : Ev (fun k => horariumlaw01_heads.f k) true := Ev.of (horariumlaw01_heads.mono) (k := 60) (by decide +kernel)
end Go.Proofs.Ytbkdmmmgffpbeaa.DigA
