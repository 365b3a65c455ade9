/- Plain facts on decimal digits, used for the laws of layer 1: no program in sight. -/
import Derived.Test.YtbkdmmmgffpbeaaWWords
import Derived.Test.YtbkdmmmgffpbeaaWLast
import Derived.Lib.MinMaxS
import Derived.IntWalk
namespace Go.Proofs.Ytbkdmmmgffpbeaa.Dec
open Go.RowKit Go.Proofs.YtbkdmmmgffpbeaaW.PrintWords Go.Proofs.YtbkdmmmgffpbeaaW.PrintLast

/-! ### Ev: a result that stands from some number of rounds on -/
theorem Ev.ite_t {α : Type} {c : Prop} [Decidable c] {f g : Nat → Option α} {r : α} (hc : c) (h : Ev f r) : Ev (fun k => if c then f k else g k) r := by
  simpa only [if_pos hc] using h
theorem Ev.ite_f {α : Type} {c : Prop} [Decidable c] {f g : Nat → Option α} {r : α} (hc : ¬ c) (h : Ev g r) : Ev (fun k => if c then f k else g k) r := by
  simpa only [if_neg hc] using h
theorem Ev.eq {α : Type} {x : Option α} {r : α} (h : x = some r) : Ev (fun _ => x) r := ⟨0, fun _ _ => h⟩
theorem Ev.to {α : Type} {g : Nat → Option α} {r r' : α} (h : Ev g r) (e : r = r') : Ev g r' := e ▸ h

/-! ### bytes as numbers -/
def N (s : ByteArray) : List Nat := s.data.toList.map UInt8.toNat
theorem data_len (s : ByteArray) : s.data.toList.length = s.size := Array.length_toList
theorem N_length (s : ByteArray) : (N s).length = s.size := by rw [N, List.length_map, data_len]
theorem N_lt (s : ByteArray) : ∀ c ∈ N s, c < 256 := by
  intro c hc
  simp only [N, List.mem_map] at hc
  obtain ⟨u, _, rfl⟩ := hc
  exact u.toNat_lt
theorem bt_N (s : ByteArray) (i : Nat) : bt s (i : Int) = ((N s).getD i 0 : Nat) := by
  unfold bt N
  by_cases h : i < s.size
  · have h' : i < s.data.toList.length := by rw [data_len]; exact h
    rw [dif_pos (by simpa using h)]
    simp only [List.getD_eq_getElem?_getD, List.getElem?_map, List.getElem?_eq_getElem h', Option.map_some, Option.getD_some]
    rfl
  · have h' : s.data.toList.length ≤ i := by rw [data_len]; omega
    rw [dif_neg (by simpa using h)]
    simp [List.getD_eq_getElem?_getD, List.getElem?_eq_none h']
theorem map_toNat_inj {a b : List UInt8} (h : a.map UInt8.toNat = b.map UInt8.toNat) : a = b := by
  induction a generalizing b with
  | nil => cases b with
    | nil => rfl
    | cons _ _ => simp at h
  | cons x a ih => cases b with
    | nil => simp at h
    | cons y b =>
      simp only [List.map_cons, List.cons.injEq] at h
      rw [UInt8.toNat_inj.1 h.1, ih h.2]
theorem N_inj {s t : ByteArray} (h : N s = N t) : s = t := by
  have := map_toNat_inj h
  cases s; cases t
  simp only [ByteArray.mk.injEq]
  exact Array.ext' this
theorem toList_N {s t : ByteArray} : s.toList = t.toList ↔ N s = N t := by
  constructor
  · intro h
    rw [Lib.toList_data, Lib.toList_data] at h
    simp [N, h]
  · intro h
    rw [N_inj h]
theorem toList_nil {s : ByteArray} : s.toList = [] ↔ N s = [] := by
  rw [Lib.toList_data]
  simp [N]
theorem size_zero {s : ByteArray} : (s.size : Int) = 0 ↔ N s = [] := by
  rw [← N_length]
  simp
theorem N_strOfNums (l : List Nat) (h : ∀ c ∈ l, c < 256) : N (strOfNums (l.map Int.ofNat)) = l := by
  unfold N
  rw [strOfNums_data]
  simp only [List.map_map]
  conv => rhs; rw [← List.map_id l]
  refine List.map_congr_left fun c hc => ?_
  simp [UInt8.toNat_ofNat', Nat.mod_eq_of_lt (h c hc)]
theorem N_append (s t : ByteArray) : N (s ++ t) = N s ++ N t := by
  simp [N]
theorem N_extract (s : ByteArray) (i : Nat) : N (s.extract i s.size) = (N s).drop i := by
  unfold N
  rw [ByteArray.data_extract]
  simp only [Array.toList_extract, List.extract_eq_take_drop]
  rw [List.map_take, List.map_drop, List.take_of_length_le (by rw [List.length_drop, List.length_map, data_len]; exact Nat.le_refl _)]
theorem drop_cons {s : ByteArray} {i c : Nat} {rest : List Nat} (h : (N s).drop i = c :: rest) : bt s (i : Int) = (c : Int) ∧ (i : Int) < (s.size : Int) ∧ (N s).drop (i + 1) = rest := by
  have hl : i < (N s).length := by
    rcases Nat.lt_or_ge i (N s).length with h' | h'
    · exact h'
    · rw [List.drop_of_length_le h'] at h
      cases h
  rw [List.drop_eq_getElem_cons hl] at h
  injection h with h1 h2
  refine ⟨?_, by rw [← N_length]; omega, h2⟩
  rw [bt_N, List.getD_eq_getElem?_getD, List.getElem?_eq_getElem hl, Option.getD_some, h1]
theorem drop_nil {s : ByteArray} {i : Nat} (h : (N s).drop i = []) : ¬ ((i : Int) < (s.size : Int)) := by
  have := List.drop_eq_nil_iff.1 h
  rw [N_length] at this
  omega
theorem wrap_int {i : Int} {n : Nat} (h0 : 0 ≤ i) (h : i < (n : Int)) (hn : n ≤ 140737488351232) : wrap64 (i + 1) = i + 1 := by
  unfold wrap64
  omega
theorem wrap_succ {i : Nat} {n : Nat} (h : (i : Int) < (n : Int)) (hn : n ≤ 140737488351232) : wrap64 ((i : Int) + 1) = ((i + 1 : Nat) : Int) := by
  have h2 : wrap64 ((i : Int) + 1) = (i : Int) + 1 := wrap_int (by omega) h hn
  rw [h2]
  rfl

/-! ### digits -/
def isd (c : Nat) : Bool := decide (48 ≤ c) && decide (c ≤ 57)
def Sh (l : List Nat) : Bool := l.all isd && !l.isEmpty && (decide (l.headD 0 ≠ 48) || decide (l.length ≤ 1))
def valF (n : Nat) (l : List Nat) : Nat := l.foldl (fun n c => 10 * n + (c - 48)) n
def val (l : List Nat) : Nat := valF 0 l
attribute [irreducible] val
theorem val_def (l : List Nat) : val l = valF 0 l := by unfold val; rfl
theorem val_cons (c : Nat) (l : List Nat) : val (c :: l) = valF (10 * 0 + (c - 48)) l := by unfold val valF; rw [List.foldl_cons]
theorem valF_cons (n c : Nat) (l : List Nat) : valF n (c :: l) = valF (10 * n + (c - 48)) l := by unfold valF; rw [List.foldl_cons]
theorem valF_nil (n : Nat) : valF n [] = n := rfl
theorem valF_append (n : Nat) (l m : List Nat) : valF n (l ++ m) = valF (valF n l) m := by simp [valF]
theorem valF_ge (l : List Nat) : ∀ n, n ≤ valF n l := by
  induction l with
  | nil => intro n; exact Nat.le_refl _
  | cons c l ih => intro n; rw [valF_cons]; exact Nat.le_trans (by omega) (ih _)
theorem valF_eq (l : List Nat) : ∀ n, valF n l = n * 10 ^ l.length + val l := by
  induction l with
  | nil => intro n; simp [valF_nil, val_def]
  | cons c l ih =>
    intro n
    rw [valF_cons, ih, val_cons, ih (10 * 0 + (c - 48))]
    simp only [List.length_cons, Nat.pow_succ, Nat.mul_zero, Nat.zero_add]
    rw [Nat.add_mul]
    have : 10 * n * 10 ^ l.length = n * (10 ^ l.length * 10) := by rw [Nat.mul_comm 10 n, Nat.mul_assoc, Nat.mul_comm 10]
    omega
theorem val_lt (l : List Nat) (h : l.all isd = true) : val l < 10 ^ l.length := by
  induction l with
  | nil => simp [val_def, valF_nil]
  | cons c l ih =>
    simp only [List.all_cons, Bool.and_eq_true, isd, decide_eq_true_eq] at h
    have h2 := ih (by simpa [isd] using h.2)
    rw [val_cons, valF_eq]
    simp only [List.length_cons, Nat.pow_succ]
    have : (10 * 0 + (c - 48)) * 10 ^ l.length ≤ 9 * 10 ^ l.length := Nat.mul_le_mul_right _ (by omega)
    omega
/-- Of digit texts of one length the one that stands behind has the greater value. -/
theorem val_lex : ∀ (l m : List Nat), l.all isd = true → m.all isd = true → l.length = m.length → (val l < val m ↔ l < m) := by
  intro l
  induction l with
  | nil =>
    intro m _ _ h
    cases m with
    | nil => simp
    | cons _ _ => simp at h
  | cons c l ih =>
    intro m hl hm h
    cases m with
    | nil => simp at h
    | cons d m =>
      simp only [List.all_cons, Bool.and_eq_true, isd, decide_eq_true_eq] at hl hm
      have hl2 : l.all isd = true := by simpa [isd] using hl.2
      have hm2 : m.all isd = true := by simpa [isd] using hm.2
      have hlen : l.length = m.length := by simpa using h
      have i := ih m hl2 hm2 hlen
      have a := val_lt l hl2
      have b := val_lt m hm2
      rw [hlen] at a
      rw [val_cons, val_cons, valF_eq l, valF_eq m, hlen, List.cons_lt_cons_iff]
      rcases Nat.lt_trichotomy c d with hcd | rfl | hcd
      · have : (10 * 0 + (c - 48)) * 10 ^ m.length + 10 ^ m.length ≤ (10 * 0 + (d - 48)) * 10 ^ m.length := by
          rw [← Nat.succ_mul]; exact Nat.mul_le_mul_right _ (by omega)
        constructor
        · intro _; exact .inl hcd
        · intro _; omega
      · constructor
        · intro hv; exact .inr ⟨rfl, i.1 (by omega)⟩
        · intro hv
          rcases hv with hv | ⟨_, hv⟩
          · omega
          · have := i.2 hv; omega
      · have : (10 * 0 + (d - 48)) * 10 ^ m.length + 10 ^ m.length ≤ (10 * 0 + (c - 48)) * 10 ^ m.length := by
          rw [← Nat.succ_mul]; exact Nat.mul_le_mul_right _ (by omega)
        constructor
        · intro _; omega
        · intro hv
          rcases hv with hv | ⟨hv, _⟩ <;> omega
theorem val_inj (l m : List Nat) (hl : l.all isd = true) (hm : m.all isd = true) (h : l.length = m.length) (hv : val l = val m) : l = m := by
  induction l generalizing m with
  | nil => cases m with
    | nil => rfl
    | cons _ _ => simp at h
  | cons c l ih =>
    cases m with
    | nil => simp at h
    | cons d m =>
      simp only [List.all_cons, Bool.and_eq_true, isd, decide_eq_true_eq] at hl hm
      have hl2 : l.all isd = true := by simpa [isd] using hl.2
      have hm2 : m.all isd = true := by simpa [isd] using hm.2
      have hlen : l.length = m.length := by simpa using h
      have a := val_lt l hl2
      have b := val_lt m hm2
      rw [val_cons, val_cons, valF_eq l, valF_eq m, hlen] at hv
      rw [hlen] at a
      have hcd : c = d := by
        rcases Nat.lt_trichotomy c d with hcd | hcd | hcd
        · have : (10 * 0 + (c - 48)) * 10 ^ m.length + 10 ^ m.length ≤ (10 * 0 + (d - 48)) * 10 ^ m.length := by
            rw [← Nat.succ_mul]; exact Nat.mul_le_mul_right _ (by omega)
          omega
        · exact hcd
        · have : (10 * 0 + (d - 48)) * 10 ^ m.length + 10 ^ m.length ≤ (10 * 0 + (c - 48)) * 10 ^ m.length := by
            rw [← Nat.succ_mul]; exact Nat.mul_le_mul_right _ (by omega)
          omega
      subst hcd
      rw [ih m hl2 hm2 hlen (by omega)]
/-- The decimal text of a number. -/
def dec (n : Nat) : List Nat := if n < 10 then [48 + n] else dec (n / 10) ++ [48 + n % 10]
termination_by n
theorem dec_small {n : Nat} (h : n < 10) : dec n = [48 + n] := by rw [dec, if_pos h]
theorem dec_great {n : Nat} (h : ¬ n < 10) : dec n = dec (n / 10) ++ [48 + n % 10] := by rw [dec, if_neg h]
theorem dec_len_pos (n : Nat) : 0 < (dec n).length := by
  rw [dec]; split <;> simp
theorem dec_all (n : Nat) : (dec n).all isd = true := by
  induction n using Nat.strongRecOn with
  | _ n ih =>
    by_cases h : n < 10
    · rw [dec_small h]; simp [isd]; omega
    · rw [dec_great h, List.all_append, ih _ (by omega)]; simp [isd]; omega
theorem dec_val (n : Nat) : val (dec n) = n := by
  induction n using Nat.strongRecOn with
  | _ n ih =>
    by_cases h : n < 10
    · rw [dec_small h]; simp [val_def, valF]
    · rw [dec_great h, val_def, valF_append]
      have := ih (n / 10) (by omega)
      rw [val_def] at this
      rw [this]
      simp [valF]; omega
theorem dec_head (n : Nat) : n ≠ 0 → (dec n).headD 0 ≠ 48 := by
  induction n using Nat.strongRecOn with
  | _ n ih =>
    intro h0
    by_cases h : n < 10
    · rw [dec_small h]; simp; omega
    · rw [dec_great h]
      have hp := dec_len_pos (n / 10)
      have := ih (n / 10) (by omega) (by omega)
      cases he : dec (n / 10) with
      | nil => rw [he] at hp; simp at hp
      | cons c l => rw [he] at this; simpa using this
theorem dec_Sh (n : Nat) : Sh (dec n) = true := by
  unfold Sh
  have hp := dec_len_pos n
  have h1 : (dec n).isEmpty = false := by
    cases he : dec n with
    | nil => rw [he] at hp; simp at hp
    | cons _ _ => rfl
  rw [dec_all, h1]
  by_cases h0 : n = 0
  · subst h0; rw [dec_small (by omega)]; simp
  · rw [decide_eq_true (dec_head n h0)]; rfl
theorem Sh_all {l : List Nat} (h : Sh l = true) : l.all isd = true := by
  unfold Sh at h
  simp only [Bool.and_eq_true] at h
  exact h.1.1
theorem Sh_ne {l : List Nat} (h : Sh l = true) : l ≠ [] := by
  rintro rfl
  simp [Sh] at h
theorem Sh_head {l : List Nat} (h : Sh l = true) (hl : 1 < l.length) : l.headD 0 ≠ 48 := by
  unfold Sh at h
  simp only [Bool.and_eq_true, Bool.or_eq_true, decide_eq_true_eq] at h
  rcases h.2 with h | h
  · exact h
  · omega
/-- The number of digits tells how great it is. -/
theorem val_ge {l : List Nat} (h : Sh l = true) (hl : 1 < l.length) : 10 ^ (l.length - 1) ≤ val l := by
  have hh := Sh_head h hl
  have ha := Sh_all h
  cases l with
  | nil => simp at hl
  | cons c l =>
    simp only [List.all_cons, Bool.and_eq_true, isd, decide_eq_true_eq] at ha
    simp at hh
    rw [val_cons, valF_eq]
    simp only [List.length_cons, Nat.add_sub_cancel]
    have : 1 * 10 ^ l.length ≤ (10 * 0 + (c - 48)) * 10 ^ l.length := Nat.mul_le_mul_right _ (by omega)
    omega
theorem Sh_len {l m : List Nat} (hl : Sh l = true) (hm : Sh m = true) (h : l.length < m.length) : val l < val m := by
  have h1 : 0 < l.length := by
    rcases Nat.eq_zero_or_pos l.length with h0 | h0
    · exact absurd (List.length_eq_zero_iff.1 h0) (Sh_ne hl)
    · exact h0
  have a := val_lt l (Sh_all hl)
  have b := val_ge hm (by omega)
  have : 10 ^ l.length ≤ 10 ^ (m.length - 1) := Nat.pow_le_pow_right (by omega) (by omega)
  omega
theorem Sh_inj {l m : List Nat} (hl : Sh l = true) (hm : Sh m = true) (h : val l = val m) : l = m := by
  rcases Nat.lt_trichotomy l.length m.length with h1 | h1 | h1
  · have := Sh_len hl hm h1; omega
  · exact val_inj l m (Sh_all hl) (Sh_all hm) h1 h
  · have := Sh_len hm hl h1; omega
theorem dec_of_val {l : List Nat} (hl : Sh l = true) : dec (val l) = l := Sh_inj (dec_Sh _) hl (dec_val _)
theorem dec_order (a b : Nat) : a < b ↔ (dec a).length < (dec b).length ∨ ((dec a).length = (dec b).length ∧ dec a < dec b) := by
  rcases Nat.lt_trichotomy (dec a).length (dec b).length with h | h | h
  · have := Sh_len (dec_Sh a) (dec_Sh b) h
    rw [dec_val, dec_val] at this
    exact ⟨fun _ => .inl h, fun _ => this⟩
  · have := val_lex (dec a) (dec b) (dec_all a) (dec_all b) h
    rw [dec_val, dec_val] at this
    rw [this]
    constructor
    · intro hx; exact .inr ⟨h, hx⟩
    · rintro (hx | ⟨_, hx⟩)
      · omega
      · exact hx
  · have := Sh_len (dec_Sh b) (dec_Sh a) h
    rw [dec_val, dec_val] at this
    constructor
    · intro hx; omega
    · rintro (hx | ⟨hx, _⟩) <;> omega
theorem dec_len_20 {n : Nat} (h : n < 18446744073709551616) : (dec n).length ≤ 20 := by
  rcases Nat.lt_or_ge 20 (dec n).length with hl | hl
  · have := val_ge (dec_Sh n) (by omega)
    rw [dec_val] at this
    have : 10 ^ 20 ≤ 10 ^ ((dec n).length - 1) := Nat.pow_le_pow_right (by omega) (by omega)
    omega
  · exact hl
theorem bytesLess_N (s t : ByteArray) : Op.bytesLess s.toList t.toList = decide (N s < N t) := by
  rw [Lib.toList_data, Lib.toList_data]
  unfold N
  generalize s.data.toList = a
  generalize t.data.toList = b
  induction a generalizing b with
  | nil => cases b with
    | nil => simp [Op.bytesLess]
    | cons _ _ => simp [Op.bytesLess]
  | cons x a ih => cases b with
    | nil => simp [Op.bytesLess]
    | cons y b =>
      simp only [Op.bytesLess, List.map_cons, ih b]
      rw [Bool.eq_iff_iff]
      simp only [Bool.or_eq_true, Bool.and_eq_true, decide_eq_true_eq, beq_iff_eq, List.cons_lt_cons_iff, UInt8.lt_iff_toNat_lt, UInt8.toNat_inj]
end Go.Proofs.Ytbkdmmmgffpbeaa.Dec
