/- How an argument of any printed kind is opened: what a reading tells of the cells, and the bounds that a row's weights give. -/
import Derived.Test.YtklgecdklngekaaGreatDoorWWords
import Derived.Deep.Slices
import Derived.SizedLaws
import Derived.ChangeArms
namespace Go.Proofs.YtklgecdklngekaaGreatDoor.Opn
open Go.RowKit Go.Proofs.YtklgecdklngekaaGreatDoorW.PrintWords Go.ChangeShapes Go.WideShapes Go.Deep
structure Opens {α : Type} (P : Program) (t : TypeId) (d : Kd α) (S : α → Prop) : Prop where
  out : ∀ {H : Type} {enc : TypeId × Value → H} {w : World} {base : Nat} {spare : Nat → Bool} {held : Bool} {fuel : Nat} {cs : List Value} {x : DataW H × List MemPlace},
    DataW.trod enc P w base spare held fuel t cs = some x → (x.1.weights P t).all (· ≤ reachBytes) = true → ∃ a : α, d.K w a cs ∧ S a
theorem op_int {P : Program} {t : TypeId} {k : IntKind} (ht : P.underlying t = some (.int k)) : Opens P t (Kd.int k) (fun n => (Lit.int k n).wf = true) := by
  constructor
  intro H enc w base spare held fuel cs x h _
  obtain ⟨n, rfl, rfl, hw⟩ := DataW.trod_int ht h
  exact ⟨n, rfl, hw⟩
theorem op_bool {P : Program} {t : TypeId} (ht : P.underlying t = some .bool) : Opens P t Kd.bool (fun _ => True) := by
  constructor
  intro H enc w base spare held fuel cs x h _
  obtain ⟨b, rfl, _⟩ := DataW.trod_bool ht h
  exact ⟨b, rfl, trivial⟩
theorem weights_all {H : Type} {P : Program} {e : TypeId} : ∀ {ds : List (DataW H)}, (DataW.weightsAll P e ds).all (· ≤ reachBytes) = true → ∀ d ∈ ds, (d.weights P e).all (· ≤ reachBytes) = true
  | [], _, d, hd => by simp at hd
  | d0 :: ds, h, d, hd => by
    rw [DataW.weightsAll, List.all_append, Bool.and_eq_true] at h
    rcases List.mem_cons.1 hd with rfl | hd
    · exact h.1
    · exact weights_all h.2 d hd
theorem C_of_cells {α : Type} (d : Kd α) (w : World) (ad : Addr) (len : Nat) (hm : len ≤ 9223372036854775807) (S : α → Prop)
    (h : ∀ i, i < len → ∃ (x : α) (cs : List Value), d.K w x cs ∧ S x ∧ ∀ j u, cs[j]? = some u → w.cell? (ad.add (i * d.sz + j)) = some u) :
    ∃ l : List α, l.length = len ∧ d.C w (some ad) len l ∧ ∀ x ∈ l, S x := by
  have key : ∀ n, n ≤ len → ∃ l : List α, l.length = n ∧ ∀ i x, l[i]? = some x → S x ∧ ∃ cs : List Value, d.K w x cs ∧ ∀ j u, cs[j]? = some u → w.cell? (ad.add (i * d.sz + j)) = some u := by
    intro n
    induction n with
    | zero => intro _; exact ⟨[], rfl, fun i x hx => by simp at hx⟩
    | succ n ih =>
      intro hn
      obtain ⟨l, hl, hc⟩ := ih (by omega)
      obtain ⟨x, cs, hK, hS, hcell⟩ := h n (by omega)
      refine ⟨l ++ [x], by simp [hl], fun i y hy => ?_⟩
      rcases Nat.lt_or_ge i l.length with hi | hi
      · rw [List.getElem?_append_left hi] at hy
        exact hc i y hy
      · rw [List.getElem?_append_right hi] at hy
        have : i = n := by
          have := (List.getElem?_eq_some_iff.1 hy).1
          simp at this
          omega
        subst this
        rw [hl] at hy
        simp at hy
        subst hy
        exact ⟨hS, cs, hK, hcell⟩
  obtain ⟨l, hl, hc⟩ := key len (Nat.le_refl _)
  refine ⟨l, hl, ⟨hl, hm, fun _ => ⟨ad, rfl, fun j x hx => ?_⟩⟩, fun x hx => ?_⟩
  · obtain ⟨_, cs, hK, hcell⟩ := hc j x hx
    exact ⟨cs, d.K_len hK, hK, hcell⟩
  · obtain ⟨i, hi⟩ := List.mem_iff_getElem?.1 hx
    exact (hc i x hi).1
theorem op_slice {α : Type} {P : Program} {t e : TypeId} {d : Kd α} {S : α → Prop} {B : Nat} (ho : Opens P e d S) (ht : P.underlying t = some (.slice e)) (hc : P.cellsOf e = d.sz) (hB : P.bytesOf e = B) :
    Opens P t (Kd.slice e d) (fun l => l.length * B ≤ 140737488351232 ∧ ∀ a ∈ l, S a) := by
  constructor
  intro H enc w base spare held fuel cs x h hw
  rcases open_slice ht h with ⟨rfl, rfl⟩ | ⟨a, len, cap, m, n, D, Pl, rfl, hb, hl, hm, hmm, rfl, hi⟩
  · exact ⟨[], ⟨none, 0, rfl, Nat.le_refl _, Kd.C_nil d w⟩, by simp, fun a ha => by simp at ha⟩
  · have hlm : len ≤ m := by rw [hmm]; split <;> omega
    simp only [DataW.weights, ht, List.all_cons, List.all_append, Bool.and_eq_true, decide_eq_true_eq, List.length_map, List.length_range] at hw
    obtain ⟨h0, h1, _⟩ := hw
    rw [hB] at h0
    have hm2 : cap ≤ 9223372036854775807 := hm
    obtain ⟨l, hll, hC, hS⟩ := C_of_cells d w a len (by omega) S (fun i hil => by
      obtain ⟨cs', hcs, htr⟩ := hi i (by omega)
      have hwi := weights_all h1 (D i) (List.mem_map.2 ⟨i, List.mem_range.2 hil, rfl⟩)
      obtain ⟨x, hK, hSx⟩ := ho.out htr hwi
      refine ⟨x, cs', hK, hSx, fun j u hu => ?_⟩
      obtain ⟨_, hcl, hat⟩ := World.cells?_some hcs
      have hj : j < cs'.length := (List.getElem?_eq_some_iff.1 hu).1
      have := hat j (by omega)
      rw [hu, Go.Deep.add_add, hc] at this
      exact this)
    refine ⟨l, ⟨some a, cap, by rw [hll], by omega, by rw [hll]; exact hC⟩, ?_, hS⟩
    rw [hll]
    exact Nat.le_trans (Nat.mul_le_mul_right _ (by omega)) h0
structure OpFs {α : Type} (P : Program) (off : Nat) (fs : List Field) (d : Kd α) (S : α → Prop) : Prop where
  out : ∀ {H : Type} {enc : TypeId × Value → H} {w : World} {base : Nat} {spare : Nat → Bool} {held : Bool} {fuel : Nat} {cs : List Value} {xs : List (DataW H × List MemPlace)},
    (∀ (i : Nat) (f : Field), fs[i]? = some f → DataW.trod enc P w base spare held fuel f.type ((cs.drop f.offset).take (P.cellsOf f.type)) = xs[i]?) → cs.length = off + d.sz → xs.length = fs.length →
    (DataW.weightsEach P (fs.map (·.type)) (xs.map (·.1))).all (· ≤ reachBytes) = true → ∃ a : α, d.K w a (cs.drop off) ∧ S a
theorem opfs_one {α : Type} {P : Program} {off : Nat} {f : Field} {d : Kd α} {S : α → Prop} (h : Opens P f.type d S) (ho : f.offset = off) (hc : P.cellsOf f.type = d.sz) : OpFs P off [f] d S := by
  constructor
  intro H enc w base spare held fuel cs xs htr hl hxl hw
  have h0 := htr 0 f rfl
  match xs, hxl with
  | [x], _ =>
    rw [ho, List.take_of_length_le (by rw [List.length_drop]; omega)] at h0
    simp only [List.map_cons, List.map_nil, DataW.weightsEach, List.append_nil] at hw
    exact h.out h0 hw
theorem opfs_cons {α β : Type} {P : Program} {off : Nat} {f : Field} {fs : List Field} {d : Kd α} {e : Kd β} {S : α → Prop} {T : β → Prop} (h : Opens P f.type d S) (ho : f.offset = off) (hc : P.cellsOf f.type = d.sz) (hr : OpFs P (off + d.sz) fs e T) :
    OpFs P off (f :: fs) (Kd.pair d e) (fun x => S x.1 ∧ T x.2) := by
  constructor
  intro H enc w base spare held fuel cs xs htr hl hxl hw
  have hl2 : cs.length = off + (d.sz + e.sz) := hl
  match xs, hxl with
  | x :: xs, hxl =>
    have h0 := htr 0 f rfl
    simp only [List.map_cons, DataW.weightsEach, List.all_append, Bool.and_eq_true] at hw
    rw [ho] at h0
    obtain ⟨a, hKa, hSa⟩ := h.out h0 hw.1
    obtain ⟨b, hKb, hTb⟩ := hr.out (xs := xs) (fun i g hg => by
      have := htr (i + 1) g (by rw [List.getElem?_cons_succ]; exact hg)
      rwa [List.getElem?_cons_succ] at this) (by omega) (by simpa using hxl) hw.2
    refine ⟨(a, b), ⟨_, _, ?_, hKa, hKb⟩, hSa, hTb⟩
    rw [hc, ← List.drop_drop, List.take_append_drop]
theorem op_struct {α : Type} {P : Program} {t : TypeId} {fs : List Field} {d : Kd α} {S : α → Prop} (h : OpFs P 0 fs d S) (ht : P.underlying t = some (.struct fs.toArray)) (hc : P.cellsOf t = d.sz) : Opens P t d S := by
  constructor
  intro H enc w base spare held fuel cs x htr hw
  obtain ⟨xs, n, _, rfl, hlen, hxl, hf⟩ := DataW.trod_struct ht htr
  simp only [DataW.weights, ht] at hw
  have := h.out (xs := xs) (fun i f hi => hf i f (by simpa using hi)) (by omega) (by simpa using hxl) hw
  simpa using this
theorem Opens.imp {α : Type} {P : Program} {t : TypeId} {d : Kd α} {S S' : α → Prop} (h : Opens P t d S) (hs : ∀ a, S a → S' a) : Opens P t d S' := by
  constructor
  intro H enc w base spare held fuel cs x htr hw
  obtain ⟨a, hK, hS⟩ := h.out htr hw
  exact ⟨a, hK, hs a hS⟩
theorem op_arg {α : Type} {P : Program} {t : TypeId} {d : Kd α} {S : α → Prop} (ho : Opens P t d S) {H : Type} {enc : TypeId × Value → H} {w : World} {base : Nat} {spare : Nat → Bool} {held : Bool} {v : Value} {dd : DataW H} {ps : List MemPlace} {ts : List TypeId} {ds : List (DataW H)} {j : Nat}
    (hsz : (DataW.weightsEach P ts ds).all (· ≤ reachBytes) = true) (ht : ts[j]? = some t) (hd : ds[j]? = some dd) (h : DataW.Trod enc P w base spare held t v dd ps) : ∃ a : α, d.K w a v.cells.toList ∧ S a := by
  obtain ⟨fuel, hf⟩ := h
  refine ho.out hf (List.all_eq_true.2 fun n hn => List.all_eq_true.1 hsz n (DataW.weights_mem_each ht hd n hn))
end Go.Proofs.YtklgecdklngekaaGreatDoor.Opn
