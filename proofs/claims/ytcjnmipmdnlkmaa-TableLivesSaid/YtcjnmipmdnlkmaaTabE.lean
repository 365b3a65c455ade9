/- What the printed functions of layer 6 and of its reference come to on rising rows: closed forms. -/
import Derived.Test.YtcjnmipmdnlkmaaTabP
import Derived.Test.YtcjnmipmdnlkmaaQx4
import Derived.Test.YtcjnmipmdnlkmaaQx3
import Derived.Test.YtcjnmipmdnlkmaaQx2
namespace Go.Proofs.Ytcjnmipmdnlkmaa.TabE
open Go.RowKit Go.Proofs.YtcjnmipmdnlkmaaW.PrintWords Go.Proofs.YtcjnmipmdnlkmaaW.PrintLast Go.Proofs.Ytcjnmipmdnlkmaa.TabP Go.Proofs.Ytcjnmipmdnlkmaa.Q
theorem Ev.ite_t {α : Type} {c : Prop} [Decidable c] {f g : Nat → Option α} {r : α} (hc : c) (h : Ev f r) : Ev (fun k => if c then f k else g k) r := by
  simpa only [if_pos hc] using h
theorem Ev.ite_f {α : Type} {c : Prop} [Decidable c] {f g : Nat → Option α} {r : α} (hc : ¬ c) (h : Ev g r) : Ev (fun k => if c then f k else g k) r := by
  simpa only [if_neg hc] using h
theorem Ev.eq {α : Type} {x : Option α} {r : α} (h : x = some r) : Ev (fun _ => x) r := ⟨0, fun _ _ => h⟩
theorem Ev.to {α : Type} {g : Nat → Option α} {r r' : α} (h : Ev g r) (e : r = r') : Ev g r' := e ▸ h
def mk57 (x : Pr) : S57 := ⟨x.1, x.2⟩
def mk31 (x : Pr) : S31 := ⟨x.1, x.2⟩
theorem rd57 (l : List Pr) (i : Nat) (x : Pr) (h : l[i]? = some x) : rd_T57 (l.map mk57) (i : Int) = mk57 x := by
  unfold rd_T57
  simp [List.getD_eq_getElem?_getD, h]
theorem rd31 (l : List Pr) (i : Nat) (x : Pr) (h : l[i]? = some x) : rd_T31 (l.map mk31) (i : Int) = mk31 x := by
  unfold rd_T31
  simp [List.getD_eq_getElem?_getD, h]
theorem wrap_small {x : Int} (h0 : 0 ≤ x) (h1 : x ≤ 9223372036854775807) : wrap64 x = x := by
  unfold wrap64; omega
theorem seek_l (l : List Pr) (hr : Rising l) (hl : l.length ≤ 140737488355328) (key : ByteArray) : ∀ (d lo hi : Nat), hi - lo = d → lo ≤ cnt l key → cnt l key ≤ hi → hi ≤ l.length →
    Ev (fun k => table_seek_string.l0 k (l.map mk57) key (lo : Int) (hi : Int)) ((cnt l key : Int), has l key) := by
  intro d
  induction d using Nat.strongRecOn with
  | _ d ih =>
    intro lo hi hd h1 h2 h3
    by_cases hlt : lo < hi
    · have hmid : wrap64 (Int.tdiv (wrap64 ((lo : Int) + (hi : Int))) 2) = (((lo + hi) / 2 : Nat) : Int) := by
        rw [wrap_small (x := (lo : Int) + (hi : Int)) (by omega) (by omega), Int.tdiv_eq_ediv_of_nonneg (by omega), wrap_small (by omega) (by omega)]
        omega
      have hm : (lo + hi) / 2 < l.length := by omega
      obtain ⟨x, hx⟩ : ∃ x, l[(lo + hi) / 2]? = some x := ⟨_, List.getElem?_eq_getElem hm⟩
      have hi1 := cnt_iff hr key _ x hx
      have hrd := rd57 l _ x hx
      refine Ev.step (f := fun k => if lt x.1 key = true then table_seek_string.l0 k (l.map mk57) key ((((lo + hi) / 2 + 1 : Nat)) : Int) (hi : Int) else table_seek_string.l0 k (l.map mk57) key (lo : Int) (((lo + hi) / 2 : Nat) : Int)) (fun k => ?_) ?_
      · simp only [table_seek_string.l0]
        rw [if_pos (by omega), hmid, if_pos (by omega), if_pos (by rw [List.length_map]; omega), hrd, wrap_small (x := (((lo + hi) / 2 : Nat) : Int) + 1) (by omega) (by omega)]
        rfl
      · by_cases hc : lt x.1 key = true
        · exact Ev.ite_t hc (ih (hi - ((lo + hi) / 2 + 1)) (by omega) _ _ rfl (by have := hi1.1 hc; omega) h2 h3)
        · exact Ev.ite_f hc (ih ((lo + hi) / 2 - lo) (by omega) _ _ rfl h1 (by have : ¬ (lo + hi) / 2 < cnt l key := fun h => hc (hi1.2 h); omega) (by omega))
    · have he : lo = cnt l key := by omega
      subst he
      by_cases hb : cnt l key < l.length
      · obtain ⟨x, hx⟩ : ∃ x, l[cnt l key]? = some x := ⟨_, List.getElem?_eq_getElem hb⟩
        refine Ev.step (f := fun _ => some ((cnt l key : Int), (x.1.toList == key.toList))) (fun k => ?_) (Ev.eq ?_)
        · simp only [table_seek_string.l0]
          rw [if_neg (by omega), if_pos (by rw [List.length_map]; omega), if_pos (by omega), rd57 l _ x hx]
          rfl
        · rw [has_at, hx]
          congr 2
          rw [Bool.eq_iff_iff, beq_iff_eq, decide_eq_true_eq, toList_eq]
      · refine Ev.step (f := fun _ => some ((cnt l key : Int), false)) (fun k => ?_) (Ev.eq ?_)
        · simp only [table_seek_string.l0]
          rw [if_neg (by omega), if_neg (by rw [List.length_map]; omega)]
        · rw [has_at, List.getElem?_eq_none (by omega)]
theorem seek_ev (l : List Pr) (hr : Rising l) (hl : l.length ≤ 140737488355328) (key : ByteArray) : Ev (fun k => table_seek_string.f k (l.map mk57) key) ((cnt l key : Int), has l key) := by
  unfold table_seek_string.f
  rw [List.length_map]
  exact seek_l l hr hl key l.length 0 l.length (by omega) (by omega) (cnt_le l key) (by omega)
/-! ### the reference -/
theorem lenm (l : List Pr) : (l.map mk31).length = l.length := List.length_map ..
theorem cnt_hit (l : List Pr) (key v : ByteArray) (hl : l.length ≤ 4000000) (x : Pr) (hx : l[cnt l key]? = some x) (he : x.1 = key) (k : Nat) :
    horariumref06_Put.l0 (k + 1) (l.map mk31) key v (cnt l key : Int) = some (([] ++ (l.map mk31).take (cnt l key)) ++ [(⟨key, v⟩ : S31)] ++ (l.map mk31).drop (cnt l key + 1)) := by
  have hc := cnt_le l key
  have hb : cnt l key < l.length := (List.getElem?_eq_some_iff.1 hx).1
  have hrd := rd31 l _ x hx
  have hlt := at_cnt l key x hx
  have hL := lenm l
  generalize l.map mk31 = m at hrd hL ⊢
  generalize cnt l key = c at *
  have e1 : wrap64 ((c : Int) + 1) = ((c + 1 : Nat) : Int) := by rw [wrap_small (by omega) (by omega)]; omega
  rw [horariumref06_Put.l0]
  rw [if_pos (by omega), if_pos (by omega), hrd, if_neg (show ¬ Op.bytesLess (mk31 x).f0.toList key.toList = true from hlt), if_pos (show (mk31 x).f0.toList = key.toList from toList_eq.2 he)]
  simp only [Option.bind_some, e1, Int.toNat_natCast]
  rw [if_pos (by omega), if_pos (by simp only [List.length_nil, List.length_take]; omega), if_pos (by simp only [List.length_nil, List.length_append, List.length_cons, List.length_take]; omega), if_pos (by omega), if_pos (by omega), if_pos (by simp only [List.length_nil, List.length_append, List.length_cons, List.length_take, List.length_drop]; omega)]
theorem cnt_miss (l : List Pr) (key v : ByteArray) (hl : l.length ≤ 4000000) (x : Pr) (hx : l[cnt l key]? = some x) (he : ¬ x.1 = key) (k : Nat) :
    horariumref06_Put.l0 (k + 1) (l.map mk31) key v (cnt l key : Int) = some (([] ++ (l.map mk31).take (cnt l key)) ++ [(⟨key, v⟩ : S31)] ++ (l.map mk31).drop (cnt l key)) := by
  have hc := cnt_le l key
  have hb : cnt l key < l.length := (List.getElem?_eq_some_iff.1 hx).1
  have hrd := rd31 l _ x hx
  have hlt := at_cnt l key x hx
  have hL := lenm l
  generalize l.map mk31 = m at hrd hL ⊢
  generalize cnt l key = c at *
  rw [horariumref06_Put.l0]
  rw [if_pos (by omega), if_pos (by omega), hrd, if_neg (show ¬ Op.bytesLess (mk31 x).f0.toList key.toList = true from hlt), if_neg (show ¬ (mk31 x).f0.toList = key.toList from fun h => he (toList_eq.1 h))]
  simp only [Option.bind_some, Int.toNat_natCast]
  rw [if_pos (by omega), if_pos (by simp only [List.length_nil, List.length_take]; omega), if_pos (by simp only [List.length_nil, List.length_append, List.length_cons, List.length_take]; omega), if_pos (by simp only [List.length_nil, List.length_append, List.length_cons, List.length_take, List.length_drop]; omega)]
theorem cnt_end (l : List Pr) (key v : ByteArray) (hl : l.length ≤ 4000000) (hb : ¬ cnt l key < l.length) (k : Nat) :
    horariumref06_Put.l0 (k + 1) (l.map mk31) key v (cnt l key : Int) = some (([] ++ (l.map mk31).take (cnt l key)) ++ [(⟨key, v⟩ : S31)] ++ (l.map mk31).drop (cnt l key)) := by
  have hc := cnt_le l key
  have hL := lenm l
  generalize l.map mk31 = m at hL ⊢
  generalize cnt l key = c at *
  rw [horariumref06_Put.l0]
  rw [if_neg (by omega)]
  simp only [Option.bind_some, Int.toNat_natCast]
  rw [if_pos (by omega), if_pos (by omega), if_pos (by simp only [List.length_nil, List.length_take]; omega), if_pos (by simp only [List.length_nil, List.length_append, List.length_cons, List.length_take]; omega), if_pos (by simp only [List.length_nil, List.length_append, List.length_cons, List.length_take, List.length_drop]; omega)]
theorem put_map (l : List Pr) (key v : ByteArray) : (put l key v).map mk31 = ([] ++ (l.map mk31).take (cnt l key)) ++ [(⟨key, v⟩ : S31)] ++ (if has l key = true then (l.map mk31).drop (cnt l key + 1) else (l.map mk31).drop (cnt l key)) := by
  unfold put rest
  split <;> simp [mk31]
theorem refPut_ev (l : List Pr) (hl : l.length ≤ 4000000) (key v : ByteArray) : Ev (fun k => horariumref06_Put.f k (l.map mk31) key v) ((put l key v).map mk31) := by
  unfold horariumref06_Put.f
  suffices h : ∀ (d i : Nat), cnt l key - i = d → i ≤ cnt l key → Ev (fun k => horariumref06_Put.l0 k (l.map mk31) key v (i : Int)) ((put l key v).map mk31) from h (cnt l key) 0 (by omega) (by omega)
  have hc := cnt_le l key
  intro d
  induction d with
  | zero =>
    intro i hd hi
    obtain rfl : i = cnt l key := by omega
    rw [put_map]
    by_cases hb : cnt l key < l.length
    · obtain ⟨x, hx⟩ : ∃ x, l[cnt l key]? = some x := ⟨_, List.getElem?_eq_getElem hb⟩
      have hh := has_at l key
      rw [hx] at hh
      by_cases he : x.1 = key
      · rw [if_pos (by rw [hh]; simpa using he)]
        exact Ev.step (f := fun _ => some _) (cnt_hit l key v hl x hx he) (Ev.now _)
      · rw [if_neg (by rw [hh]; simpa using he)]
        exact Ev.step (f := fun _ => some _) (cnt_miss l key v hl x hx he) (Ev.now _)
    · have : (if has l key = true then (l.map mk31).drop (cnt l key + 1) else (l.map mk31).drop (cnt l key)) = (l.map mk31).drop (cnt l key) := by
        split
        · rw [List.drop_of_length_le (by rw [lenm]; omega), List.drop_of_length_le (by rw [lenm]; omega)]
        · rfl
      rw [this]
      exact Ev.step (f := fun _ => some _) (cnt_end l key v hl hb) (Ev.now _)
  | succ d ih =>
    intro i hd hi
    obtain ⟨x, hx, hlt⟩ := TabP.ahead l key i (by omega)
    have e1 : wrap64 ((i : Int) + 1) = ((i + 1 : Nat) : Int) := by rw [wrap_small (by omega) (by omega)]; omega
    refine Ev.step (f := fun k => horariumref06_Put.l0 k (l.map mk31) key v ((i + 1 : Nat) : Int)) (fun k => ?_) (ih (i + 1) (by omega) (by omega))
    conv => lhs; rw [horariumref06_Put.l0]
    rw [if_pos (by rw [lenm]; omega), if_pos (by omega), rd31 l i x hx, if_pos (show Op.bytesLess (mk31 x).f0.toList key.toList = true from hlt), e1]
theorem refGet_ev (l : List Pr) (hr : Rising l) (hl : l.length ≤ 4000000) (key : ByteArray) : Ev (fun k => horariumref06_Get.f k (l.map mk31) key) (get l key) := by
  unfold horariumref06_Get.f
  rw [get_find hr]
  suffices h : ∀ (r : List Pr) (i : Nat), l.drop i = r → Ev (fun k => horariumref06_Get.l0 k (l.map mk31) key (i : Int)) (match r.find? (fun x => decide (x.1 = key)) with | some x => (x.2, true) | none => (ByteArray.empty, false)) from h l 0 rfl
  intro r
  induction r with
  | nil =>
    intro i h
    have := List.drop_eq_nil_iff.1 h
    refine Ev.step (f := fun _ => some (ByteArray.empty, false)) (fun k => ?_) (Ev.now _)
    rw [horariumref06_Get.l0, if_neg (by rw [lenm]; omega)]
    rfl
  | cons x r ih =>
    intro i h
    have hil : i < l.length := by
      rcases Nat.lt_or_ge i l.length with h' | h'
      · exact h'
      · rw [List.drop_of_length_le h'] at h; cases h
    rw [List.drop_eq_getElem_cons hil] at h
    injection h with h1 h2
    have hx : l[i]? = some x := by rw [List.getElem?_eq_getElem hil, h1]
    rw [List.find?_cons]
    by_cases he : x.1 = key
    · refine Ev.step (f := fun _ => some (x.2, true)) (fun k => ?_) (Ev.eq ?_)
      · rw [horariumref06_Get.l0, if_pos (by rw [lenm]; omega), if_pos (by omega), rd31 l i x hx, if_pos (show (mk31 x).f0.toList = key.toList from toList_eq.2 he)]
        rfl
      · simp [he]
    · refine Ev.step (f := fun k => horariumref06_Get.l0 k (l.map mk31) key ((i + 1 : Nat) : Int)) (fun k => ?_) (Ev.to (ih (i + 1) h2) ?_)
      · conv => lhs; rw [horariumref06_Get.l0]
        rw [if_pos (by rw [lenm]; omega), if_pos (by omega), rd31 l i x hx, if_neg (show ¬ (mk31 x).f0.toList = key.toList from fun h => he (toList_eq.1 h)), wrap_small (x := (i : Int) + 1) (by omega) (by omega)]
        rfl
      · simp [he]
theorem refDelete_ev (l : List Pr) (hl : l.length ≤ 4000000) (key : ByteArray) : Ev (fun k => horariumref06_Delete.f k (l.map mk31) key) ((l.filter fun x => decide (x.1 ≠ key)).map mk31) := by
  unfold horariumref06_Delete.f
  suffices h : ∀ (r : List Pr) (i : Nat) (acc : List S31), l.drop i = r → acc.length + r.length ≤ 4000000 → Ev (fun k => horariumref06_Delete.l0 k (l.map mk31) key acc (i : Int)) (acc ++ (r.filter fun x => decide (x.1 ≠ key)).map mk31) from h l 0 [] rfl (by simpa using hl)
  intro r
  induction r with
  | nil =>
    intro i acc h _
    have := List.drop_eq_nil_iff.1 h
    refine Ev.step (f := fun _ => some acc) (fun k => ?_) (Ev.eq (by simp))
    rw [horariumref06_Delete.l0, if_neg (by rw [lenm]; omega)]
  | cons x r ih =>
    intro i acc h hlen
    have hil : i < l.length := by
      rcases Nat.lt_or_ge i l.length with h' | h'
      · exact h'
      · rw [List.drop_of_length_le h'] at h; cases h
    rw [List.drop_eq_getElem_cons hil] at h
    injection h with h1 h2
    have hx : l[i]? = some x := by rw [List.getElem?_eq_getElem hil, h1]
    rw [List.length_cons] at hlen
    by_cases he : x.1 = key
    · refine Ev.step (f := fun k => horariumref06_Delete.l0 k (l.map mk31) key acc ((i + 1 : Nat) : Int)) (fun k => ?_) (Ev.to (ih (i + 1) acc h2 (by omega)) ?_)
      · conv => lhs; rw [horariumref06_Delete.l0]
        rw [if_pos (by rw [lenm]; omega), if_pos (by omega), rd31 l i x hx, if_pos (show (mk31 x).f0.toList = key.toList from toList_eq.2 he), wrap_small (x := (i : Int) + 1) (by omega) (by omega)]
        rfl
      · simp [he]
    · refine Ev.step (f := fun k => horariumref06_Delete.l0 k (l.map mk31) key (acc ++ [mk31 x]) ((i + 1 : Nat) : Int)) (fun k => ?_) (Ev.to (ih (i + 1) (acc ++ [mk31 x]) h2 (by simp; omega)) ?_)
      · conv => lhs; rw [horariumref06_Delete.l0]
        rw [if_pos (by rw [lenm]; omega), if_pos (by omega), rd31 l i x hx, if_neg (show ¬ (mk31 x).f0.toList = key.toList from fun h => he (toList_eq.1 h)), if_pos (by omega), wrap_small (x := (i : Int) + 1) (by omega) (by omega)]
        rfl
      · simp [he]
theorem refSame_ev (a b : List Pr) (hl : a.length ≤ 4000000) : Ev (fun k => horariumref06_Same.f k (a.map mk31) (b.map mk31)) (decide (a = b)) := by
  unfold horariumref06_Same.f
  by_cases hlen : a.length = b.length
  · refine Ev.ite_t (by rw [lenm, lenm]; omega) ?_
    suffices h : ∀ (d i : Nat), a.length - i = d → i ≤ a.length → a.take i = b.take i → Ev (fun k => horariumref06_Same.l0 k (a.map mk31) (b.map mk31) (i : Int)) (decide (a = b)) from h a.length 0 (by omega) (by omega) (by simp)
    intro d
    induction d with
    | zero =>
      intro i hd hi ht
      refine Ev.step (f := fun _ => some true) (fun k => ?_) (Ev.eq ?_)
      · rw [horariumref06_Same.l0, if_neg (by rw [lenm]; omega)]
      · rw [List.take_of_length_le (by omega), List.take_of_length_le (by omega)] at ht
        simp [ht]
    | succ d ih =>
      intro i hd hi ht
      have hia : i < a.length := by omega
      have hib : i < b.length := by omega
      have hxa : a[i]? = some a[i] := List.getElem?_eq_getElem hia
      have hxb : b[i]? = some b[i] := List.getElem?_eq_getElem hib
      by_cases he : a[i] = b[i]
      · refine Ev.step (f := fun k => horariumref06_Same.l0 k (a.map mk31) (b.map mk31) ((i + 1 : Nat) : Int)) (fun k => ?_) (ih (i + 1) (by omega) (by omega) ?_)
        · conv => lhs; rw [horariumref06_Same.l0]
          rw [if_pos (by rw [lenm]; omega), if_pos (by omega), if_pos (by rw [lenm]; omega), rd31 a i _ hxa, rd31 b i _ hxb, he, if_neg (by simp), wrap_small (x := (i : Int) + 1) (by omega) (by omega)]
          rfl
        · rw [List.take_succ_eq_append_getElem hia, List.take_succ_eq_append_getElem hib, ht, he]
      · refine Ev.step (f := fun _ => some false) (fun k => ?_) (Ev.eq ?_)
        · rw [horariumref06_Same.l0, if_pos (by rw [lenm]; omega), if_pos (by omega), if_pos (by rw [lenm]; omega), rd31 a i _ hxa, rd31 b i _ hxb, if_pos ?_]
          by_cases h1 : a[i].1 = b[i].1
          · have h2 : ¬ a[i].2 = b[i].2 := fun h2 => he (Prod.ext h1 h2)
            have h3 : ¬ a[i].2.toList = b[i].2.toList := fun h => h2 (toList_eq.1 h)
            simp [mk31, h3]
          · have h3 : ¬ a[i].1.toList = b[i].1.toList := fun h => h1 (toList_eq.1 h)
            simp [mk31, h3]
        · have : a ≠ b := by
            intro h
            subst h
            exact he rfl
          simp [this]
  · refine Ev.ite_f (by rw [lenm, lenm]; omega) (Ev.eq ?_)
    have : a ≠ b := fun h => hlen (by rw [h])
    simp [this]
end Go.Proofs.Ytcjnmipmdnlkmaa.TabE
