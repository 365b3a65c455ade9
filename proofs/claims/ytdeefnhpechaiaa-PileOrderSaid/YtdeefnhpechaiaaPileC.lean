/- Contracts of the methods of a pile (layer 7). -/
import Derived.Test.YtdeefnhpechaiaaPileP
import Derived.Test.YtdeefnhpechaiaaQx1
import Derived.Laws.OwnMore
import Derived.Maps.OwnSet
import Derived.Maps.AppendAt
import Derived.StillTailTactics
import Derived.Deep.RegionHeld3
namespace Go.Proofs.Ytdeefnhpechaiaa.PileC
set_option linter.unusedVariables false
open Go.RowKit Go.Maps Go.Proofs.YtdeefnhpechaiaaW.PrintWords Go.Proofs.YtdeefnhpechaiaaW.PrintLast Go.Proofs.YtdeefnhpechaiaaW.PrintMore Go.Proofs.Ytdeefnhpechaiaa.PileP Go.Proofs.Ytdeefnhpechaiaa.Q
def fl (l : List It) : List Value := (l.map fun x => [Value.int .i64 x.1, Value.int .i64 x.2]).flatten
theorem fl_cons (x : It) (l : List It) : fl (x :: l) = .int .i64 x.1 :: .int .i64 x.2 :: fl l := by simp [fl]
theorem fl_snoc (l : List It) (x : It) : fl (l ++ [x]) = fl l ++ [.int .i64 x.1, .int .i64 x.2] := by simp [fl]
theorem fl_length (l : List It) : (fl l).length = l.length * 2 := by
  induction l with
  | nil => rfl
  | cons x l ih => rw [fl_cons]; simp [ih]; omega
theorem fl_set (l : List It) : ∀ (i : Nat) (x : It), ((fl l).set (i * 2) (.int .i64 x.1)).set (i * 2 + 1) (.int .i64 x.2) = fl (l.set i x) := by
  induction l with
  | nil => intro i x; simp [fl]
  | cons y l ih =>
    intro i x
    rw [fl_cons]
    cases i with
    | zero => simp [fl_cons]
    | succ i =>
      rw [show (i + 1) * 2 = i * 2 + 1 + 1 from by omega, List.set_cons_succ, List.set_cons_succ, List.set_cons_succ, List.set_cons_succ, ih, List.set_cons_succ, fl_cons]
theorem fl_get (l : List It) (i : Nat) (hi : i < l.length) : (fl l)[i * 2]? = some (.int .i64 (at_ l i).1) ∧ (fl l)[i * 2 + 1]? = some (.int .i64 (at_ l i).2) := by
  induction l generalizing i with
  | nil => simp at hi
  | cons y l ih =>
    rw [fl_cons]
    cases i with
    | zero => exact ⟨rfl, rfl⟩
    | succ i =>
      have := ih i (by simpa using hi)
      rw [show (i + 1) * 2 = i * 2 + 1 + 1 from by omega]
      have e : at_ (y :: l) (i + 1) = at_ l i := by unfold at_; simp
      rw [e]
      exact ⟨by simpa using this.1, by simpa using this.2⟩
theorem fl_take (l : List It) (n : Nat) : fl (l.take n) = (fl l).take (n * 2) := by
  induction l generalizing n with
  | nil => simp [fl]
  | cons y l ih =>
    cases n with
    | zero => simp [fl]
    | succ n =>
      rw [List.take_succ_cons, fl_cons, fl_cons, ih, show (n + 1) * 2 = n * 2 + 1 + 1 from by omega]
      rfl
/-- W' is W but for the blocks in F, and new ones. -/
structure Turn (W W' : World) (F : Nat → Prop) : Prop where
  os : W'.os = W.os
  tape : W'.tape = W.tape
  output : W'.output = W.output
  size : W.heap.size ≤ W'.heap.size
  block : ∀ k, k < W.heap.size → ¬ F k → W'.heap[k]? = W.heap[k]?
theorem Turn.trans {W W1 W2 : World} {F F1 : Nat → Prop} (h : Turn W W1 F) (k : Turn W1 W2 F1) (hF : ∀ j, F1 j → F j ∨ W.heap.size ≤ j) : Turn W W2 F :=
  ⟨k.os.trans h.os, k.tape.trans h.tape, k.output.trans h.output, Nat.le_trans h.size k.size, fun j hj hn => (k.block j (Nat.lt_of_lt_of_le hj h.size) (fun e => (hF j e).elim hn (by omega))).trans (h.block j hj hn)⟩
theorem Turn.of_below {W W' : World} (h : Below W.heap.size W W') (F : Nat → Prop) : Turn W W' F := ⟨h.os, h.tape, h.output, h.size, fun k hk _ => h.block k hk⟩
theorem Turn.below {w W W' : World} {F : Nat → Prop} (hw : Below w.heap.size w W) (h : Turn W W' F) (hF : ∀ k, F k → w.heap.size ≤ k) : Below w.heap.size w W' :=
  ⟨h.os.trans hw.os, h.tape.trans hw.tape, h.output.trans hw.output, Nat.le_trans hw.size h.size, fun k hk => (h.block k (Nat.lt_of_lt_of_le hk hw.size) (fun e => by have := hF k e; omega)).trans (hw.block k hk)⟩
/-- What the map of places tells. -/
def Lk (D : DataW Unit) (look : Int → Option Nat) : Prop := IsMap D ∧ ∀ x : Int, (match look x with | some i => Maps.has D (.int .i64 x) = true ∧ ∀ z, D.atKey (.int .i64 x) z = .lit (.int .i64 (i : Int)) | none => Maps.has D (.int .i64 x) = false)
theorem Lk.empty : Lk (.map []) (fun _ => none) := ⟨isMap_empty, fun x => rfl⟩
theorem lit_ne {a b : Int} (h : a ≠ b) : (Lit.int .i64 a) ≠ (Lit.int .i64 b) := fun e => h (by injection e)
theorem Lk.put {D : DataW Unit} {look : Int → Option Nat} (h : Lk D look) (k : Int) (i : Nat) : Lk (D.put (.int .i64 k) (.lit (.int .i64 (i : Int)))) (upd look k (some i)) := by
  refine ⟨h.1.put _ _, fun x => ?_⟩
  unfold upd
  by_cases e : x = k
  · subst e
    rw [if_pos rfl]
    exact ⟨has_put_same h.1 (show WideAt.IsKeyLit (.int .i64 x) from trivial) _, fun z => atKey_put_same h.1 (show WideAt.IsKeyLit (.int .i64 x) from trivial) _ z⟩
  · rw [if_neg e]
    have hx := h.2 x
    rw [has_put_other (lit_ne e)]
    cases hl : look x with
    | none => rw [hl] at hx; exact hx
    | some j =>
      rw [hl] at hx
      exact ⟨hx.1, fun z => by rw [atKey_put_other (lit_ne e)]; exact hx.2 z⟩
theorem Lk.del {D : DataW Unit} {look : Int → Option Nat} (h : Lk D look) (k : Int) : Lk (D.del (.int .i64 k)) (upd look k none) := by
  refine ⟨h.1.del _, fun x => ?_⟩
  unfold upd
  by_cases e : x = k
  · subst e
    rw [if_pos rfl]
    exact has_del_same
  · rw [if_neg e]
    have hx := h.2 x
    rw [has_del_other (lit_ne e)]
    cases hl : look x with
    | none => rw [hl] at hx; exact hx
    | some j =>
      rw [hl] at hx
      exact ⟨hx.1, fun z => by rw [atKey_del_other (lit_ne e)]; exact hx.2 z⟩
noncomputable abbrev PE : Value → Option (DataW Unit × List MemPlace) := plainElem Try.prog 3
/-- A pile at block g: its row, where each key stands, and the blocks that are its own. -/
def IsP (W : World) (B g : Nat) (l : List It) (look : Int → Option Nat) (K : Nat) (F : Nat → Prop) : Prop :=
  ∃ (v : Value) (b : Nat) (D : DataW Unit), W.heap[g]? = some (.cells #[v, .map (some b)] 49 (0, 0)) ∧ W.ownsRow B 51 2 v l.length (fl l) ∧ W.ownsMap Try.prog 3 PE b K D ∧ B ≤ g ∧ B ≤ b ∧ Lk D look ∧ (∀ x ∈ l, (Lit.int .i64 x.1).wf = true) ∧ F = fun k => k = g ∨ k = b ∨ some k = v.ownBlock
theorem own_step {W W1 : World} {b e sz n : Nat} {v : Value} {xs : List Value} (h : W.ownsRow b e sz v n xs) (hm : ∀ k, k < W.heap.size → some k = v.ownBlock → W1.heap[k]? = W.heap[k]?) : W1.ownsRow b e sz v n xs :=
  own_move h (fun k hk => hm k (own_lt h k hk) hk.symm)
theorem IsP.step {W W1 : World} {B g K : Nat} {l : List It} {look : Int → Option Nat} {F : Nat → Prop} (h : IsP W B g l look K F) (hm : ∀ k, k < W.heap.size → F k → W1.heap[k]? = W.heap[k]?) : IsP W1 B g l look K F := by
  obtain ⟨v, b, D, h1, h2, h3, h4, h5, h6, h7, rfl⟩ := h
  obtain ⟨es, ck, hb, hr⟩ := h3
  refine ⟨v, b, D, (hm g (blk_lt h1) (.inl rfl)).trans h1, own_step h2 (fun k hk e => hm k hk (.inr (.inr e))), ⟨es, ck, (hm b (Array.getElem?_eq_some_iff.1 hb).1 (.inr (.inl rfl))).trans hb, hr⟩, h4, h5, h6, h7, rfl⟩
theorem IsP.below {W W1 : World} {B g K : Nat} {l : List It} {look : Int → Option Nat} {F : Nat → Prop} (h : IsP W B g l look K F) (hb : Below W.heap.size W W1) : IsP W1 B g l look K F := h.step (fun k hk _ => hb.block k hk)
theorem IsP.drewN {W : World} {B g K : Nat} {l : List It} {look : Int → Option Nat} {F : Nat → Prop} (h : IsP W B g l look K F) (j : Nat) : IsP (W.drewN j) B g l look K F := h
theorem IsP.foot {W : World} {B g K : Nat} {l : List It} {look : Int → Option Nat} {F : Nat → Prop} (h : IsP W B g l look K F) : ∀ k, F k → B ≤ k ∧ k < W.heap.size := by
  obtain ⟨v, b, D, h1, h2, ⟨es, ck, hb, _⟩, h4, h5, h6, h7, rfl⟩ := h
  rintro k (rfl | rfl | e)
  · exact ⟨h4, blk_lt h1⟩
  · exact ⟨h5, (Array.getElem?_eq_some_iff.1 hb).1⟩
  · exact ⟨own_base h2 k e.symm, own_lt h2 k e.symm⟩
/-- Another pile is turned: this one stays. -/
theorem IsP.other {W W1 : World} {B g K : Nat} {l : List It} {look : Int → Option Nat} {F F1 : Nat → Prop} (h : IsP W B g l look K F) (ht : Turn W W1 F1) (hd : ∀ k, F k → ¬ F1 k) : IsP W1 B g l look K F :=
  h.step (fun k hk hF => ht.block k hk (hd k hF))
theorem keyOf3 {k : Int} (hk : (Lit.int .i64 k).wf = true) : keyOf Try.prog 3 (.int .i64 k) = some (.int .i64 k) := keyOf_int_mk Try.underlying3 hk
theorem idx_wf (i : Nat) (hi : i ≤ 1000) : (Lit.int .i64 (i : Int)).wf = true := by
  have h : IntKind.i64.min ≤ (i : Int) ∧ (i : Int) ≤ IntKind.i64.max := ⟨by show (-9223372036854775808 : Int) ≤ _; omega, by show _ ≤ (9223372036854775807 : Int); omega⟩
  simpa [Lit.wf] using h
/-- The cells of a pile's row, and what a store into them makes. -/
theorem IsP.cells {W : World} {B g K : Nat} {l : List It} {look : Int → Option Nat} {F : Nat → Prop} (h : IsP W B g l look K F) (i : Nat) (hi : i < l.length) :
    ∃ rb c b, W.heap[g]? = some (.cells #[.slice (some ⟨rb, 0, none⟩) l.length c, .map (some b)] 49 (0, 0)) ∧ l.length ≤ c ∧ rb < W.heap.size ∧ B ≤ rb ∧
      (∀ j, j < l.length → W.cell? ⟨rb, j * 2, none⟩ = some (.int .i64 (at_ l j).1) ∧ W.cell? ⟨rb, j * 2 + 1, none⟩ = some (.int .i64 (at_ l j).2)) ∧ (∀ j, W.frozen? ⟨rb, j, none⟩ = false) ∧
      (∀ (W1 : World) (k r : Int), (Lit.int .i64 k).wf = true → Below W.heap.size W W1 → IsP ((W1.setCell ⟨rb, i * 2, none⟩ (.int .i64 k)).setCell ⟨rb, i * 2 + 1, none⟩ (.int .i64 r)) B g (l.set i (k, r)) look K F ∧ Turn W ((W1.setCell ⟨rb, i * 2, none⟩ (.int .i64 k)).setCell ⟨rb, i * 2 + 1, none⟩ (.int .i64 r)) F) := by
  obtain ⟨v, b, D, h1, h2, h3, h4, h5, h6, h7, rfl⟩ := h
  have h2' := h2
  obtain ⟨h20, h2⟩ := h2
  rcases h2 with ⟨-, h0⟩ | ⟨rb, c, cur, rfl, hBr, hb, hlc, hmx, hcs, htk⟩
  · omega
  · have hrl : rb < W.heap.size := blk_lt hb
    refine ⟨rb, c, b, h1, hlc, hrl, hBr, fun j hj => ?_, fun j => blk_frozen hb j, fun W1 k r hk hW1 => ?_⟩
    · obtain ⟨e1, e2⟩ := fl_get l j hj
      rw [← htk] at e1 e2
      have x1 : cur[j * 2]? = some (.int .i64 (at_ l j).1) := by
        rw [List.getElem?_take, if_pos (by omega)] at e1
        simpa using e1
      have x2 : cur[j * 2 + 1]? = some (.int .i64 (at_ l j).2) := by
        rw [List.getElem?_take, if_pos (by omega)] at e2
        simpa using e2
      exact ⟨(blk_cell hb _).trans x1, (blk_cell hb _).trans x2⟩
    · have hb1 := blk_below hb hW1
      have hb2 := blk_set hb1 (i * 2) (.int .i64 k)
      have hb3 := blk_set hb2 (i * 2 + 1) (.int .i64 r)
      have hgr : g ≠ rb := by
        rintro rfl
        rw [h1] at hb; injection hb with hb; injection hb with _ hb; cases hb
      obtain ⟨es, ck, hm, hr⟩ := h3
      have hbr : b ≠ rb := by
        rintro rfl
        rw [hm] at hb; cases hb
      have far : ∀ q, q ≠ rb → ((W1.setCell ⟨rb, i * 2, none⟩ (.int .i64 k)).setCell ⟨rb, i * 2 + 1, none⟩ (.int .i64 r)).heap[q]? = W1.heap[q]? := fun q hq =>
        (Below.heap_setCell _ ⟨rb, i * 2 + 1, none⟩ _ q hq).trans (Below.heap_setCell _ ⟨rb, i * 2, none⟩ _ q hq)
      refine ⟨⟨_, b, D, (far g hgr).trans (blk_below h1 hW1), ⟨by rw [fl_length], .inr ⟨rb, c, _, by rw [List.length_set], hBr, hb3, by rw [List.length_set]; exact hlc, hmx, by simpa using hcs, ?_⟩⟩, ⟨es, ck, (far b hbr).trans ((hW1.block b (Array.getElem?_eq_some_iff.1 hm).1).trans hm), hr⟩, h4, h5, h6, fun x hx => ?_, rfl⟩, ?_⟩
      · rw [List.length_set, ← fl_set, ← htk]
        simp only [Array.toList_setIfInBounds]
        rw [List.take_set, List.take_set]
      · rcases List.mem_or_eq_of_mem_set hx with hx | rfl
        · exact h7 x hx
        · exact hk
      · refine ⟨hW1.os, hW1.tape, hW1.output, by simpa [World.setCell] using hW1.size, fun q hq hn => (far q ?_).trans (hW1.block q hq)⟩
        rintro rfl
        exact hn (.inr (.inr rfl))
/-- The map of a pile's places, and what a store into it makes. -/
theorem IsP.map {W : World} {B g K : Nat} {l : List It} {look : Int → Option Nat} {F : Nat → Prop} (h : IsP W B g l look K F) :
    ∃ (v : Value) (b : Nat) (D : DataW Unit), W.heap[g]? = some (.cells #[v, .map (some b)] 49 (0, 0)) ∧ W.ownsMap Try.prog 3 PE b K D ∧ Lk D look ∧ b < W.heap.size ∧
      (∀ (W1 : World) (K1 : Nat) (D1 : DataW Unit) (look1 : Int → Option Nat), W1.ownsMap Try.prog 3 PE b K1 D1 → Lk D1 look1 → W.grownBy W1 (some b) → IsP W1 B g l look1 K1 F ∧ Turn W W1 F) := by
  obtain ⟨v, b, D, h1, h2, h3, h4, h5, h6, h7, rfl⟩ := h
  have hm3 := h3
  obtain ⟨es, ck, hm, hr⟩ := h3
  have hgb : g ≠ b := by
    rintro rfl
    rw [h1] at hm; cases hm
  refine ⟨v, b, D, h1, hm3, h6, (Array.getElem?_eq_some_iff.1 hm).1, fun W1 K1 D1 look1 ho hL hg => ⟨⟨v, b, D1, blk_grown h1 hg (by simpa using hgb), own_step h2 (fun q hq e => hg.block q hq (fun e2 => ?_)), ho, h4, h5, hL, h7, rfl⟩, ⟨hg.os, hg.tape, hg.output, hg.size, fun q hq hn => hg.block q hq (fun e2 => hn (.inr (.inl (by injection e2)))) ⟩⟩⟩
  injection e2 with e2
  subst e2
  obtain ⟨cells, hc⟩ := own_typed h2 q e.symm
  rw [hc] at hm
  cases hm
theorem types38 {q : Nat} (hq : q ∈ 38 :: k38.E) : q = 38 := by
  simpa [k38, Kd.iso, Kd.pair, Kd.int, Kd.scalar] using hq
/-- A row of the reference stays when a pile is turned. -/
theorem R38_turn {W W1 : World} {B g K b : Nat} {l : List It} {look : Int → Option Nat} {F : Nat → Prop} {v : Value} {m : List S38} (hR : Kd.R k38 38 W b (fun _ => True) v m) (h : IsP W B g l look K F) (ht : Turn W W1 F) : Kd.R k38 38 W1 b (fun _ => True) v m := by
  obtain ⟨vv, bb, D, h1, h2, ⟨es, ck, hb, _⟩, h4, h5, h6, h7, rfl⟩ := h
  refine Kd.R_mono (Kd.R_move (Kd.R_bound hR) (fun k hk => ?_)) (fun _ h => h.1)
  obtain ⟨-, -, hlt, q, hq, cells, hc⟩ := hk
  obtain rfl := types38 hq
  refine ht.block k hlt ?_
  rintro (rfl | rfl | e)
  · rw [h1] at hc; injection hc with hc; injection hc with _ hc; cases hc
  · rw [hb] at hc; cases hc
  · obtain ⟨cells', hc'⟩ := own_typed h2 k e.symm
    rw [hc'] at hc; injection hc with hc; injection hc with _ hc; cases hc
set_option maxRecDepth 100000 in
theorem set_c (W : World) (B g : Nat) (l : List It) (look : Int → Option Nat) (K : Nat) (F : Nat → Prop) (hP : IsP W B g l look K F) (hl : l.length ≤ 1000) (hK : Hid (K < maxLen)) (i : Nat) (hi : i < l.length) (k r : Int) (hk : (Lit.int .i64 k).wf = true) :
    Calls Try.prog 23 #[.pointer (some ⟨g, 0, none⟩), .int .i64 (i : Int), .agg #[.int .i64 k, .int .i64 r]] W fun e W' => e = .returned (.tuple #[]) ∧ IsP W' B g (l.set i (k, r)) (upd look k (some i)) (K + 1) F ∧ Turn W W' F := by
  obtain ⟨rb, c, b, hg, hlc, hrl, hBr, hcs, hfs, hst⟩ := hP.cells i hi
  obtain ⟨hc1, hc2⟩ := hcs i hi
  have hA : Below W.heap.size W (W.alloc (.cells #[.int .i64 k, .int .i64 r] 51)) := (Below.refl W.heap.size W).alloc (Nat.le_refl _) _
  obtain ⟨hP2, hT2⟩ := hst _ k r hk hA
  have hcellA : (W.alloc (.cells #[.int .i64 k, .int .i64 r] 51)).cell? ⟨g, 0, none⟩ = some (.slice (some ⟨rb, 0, none⟩) l.length c) := (blk_cell (blk_alloc hg _) 0).trans rfl
  have hcA1 : (W.alloc (.cells #[.int .i64 k, .int .i64 r] 51)).cell? ⟨rb, i * 2, none⟩ = some (.int .i64 (at_ l i).1) := (hA.cell (p := ⟨rb, i * 2, none⟩) hrl).trans hc1
  have hcA2 : (W.alloc (.cells #[.int .i64 k, .int .i64 r] 51)).cell? ⟨rb, i * 2 + 1, none⟩ = some (.int .i64 (at_ l i).2) := (hA.cell (p := ⟨rb, i * 2 + 1, none⟩) hrl).trans hc2
  have hfz1 : (W.alloc (.cells #[.int .i64 k, .int .i64 r] 51)).frozen? ⟨rb, i * 2, none⟩ = false := (hA.frozen (p := ⟨rb, i * 2, none⟩) hrl).trans (hfs _)
  have hfz2 : (W.alloc (.cells #[.int .i64 k, .int .i64 r] 51)).frozen? ⟨rb, i * 2 + 1, none⟩ = false := (hA.frozen (p := ⟨rb, i * 2 + 1, none⟩) hrl).trans (hfs _)
  have hbx := blk_new W (.cells #[.int .i64 k, .int .i64 r] 51)
  have hne : W.heap.size ≠ rb := by omega
  clear hP hg hcs hfs hst hc1 hc2 hA
  go_enter Try.func23, Try.ntmps23
  go_wp2
  generalize W.alloc (.cells #[.int .i64 k, .int .i64 r] 51) = W1 at *
  have hbx3 := (blk_far (blk_far hbx (p := ⟨rb, i * 2, none⟩) hne (.int .i64 k)) (p := ⟨rb, i * 2 + 1, none⟩) hne (.int .i64 r))
  have hx1 : W1.cell? ⟨W.heap.size, 0, none⟩ = some (.int .i64 k) := (blk_cell hbx 0).trans rfl
  have hx2 : W1.cell? ⟨W.heap.size, 1, none⟩ = some (.int .i64 r) := (blk_cell hbx 1).trans rfl
  have Hbx := Lib.hid hbx3
  have HP2 := Lib.hid hP2
  have HT2 := Lib.hid hT2
  clear hbx hbx3 hP2 hT2
  go_still_tail 7, (by kernel_rfl)
  go_wp2
  clear hx1 hx2 hcellA hcA1 hcA2 hfz1 hfz2
  generalize (W1.setCell ⟨rb, i * 2, none⟩ (.int .i64 k)).setCell ⟨rb, i * 2 + 1, none⟩ (.int .i64 r) = W2 at *
  have hP3 : IsP W2.drew B g (l.set i (k, r)) look K F := HP2.out
  have hT3 : Turn W W2.drew F := ⟨HT2.out.os, HT2.out.tape, HT2.out.output, HT2.out.size, HT2.out.block⟩
  have hx3 : W2.drew.heap[W.heap.size]? = some (.cells #[.int .i64 k, .int .i64 r] 51 (0, 0)) := Hbx.out
  clear HP2 HT2 Hbx
  generalize W2.drew = W3 at *
  obtain ⟨v, b2, D, h1, hown, hL, hb2, hmk⟩ := hP3.map
  have hq1 : W3.cell? ⟨g, 1, none⟩ = some (.map (some b2)) := (blk_cell h1 1).trans rfl
  have hq2 : W3.cell? ⟨W.heap.size, 0, none⟩ = some (.int .i64 k) := (blk_cell hx3 0).trans rfl
  have Hmk := Lib.hid hmk
  have Hown : Hid (W3.drew.ownsMap Try.prog 3 PE b2 K D) := hown
  have HT3 := Lib.hid hT3
  clear h1 hown hmk hx3 hP3 hT3
  go_still_tail 7, (by kernel_rfl)
  go_wp2_with (at_mapUpdate; refine wpList_mapUpdate_own _ rfl _ _ _ 47 rfl 3 3 (int_keyed Try.underlying3) Try.underlying47 _ b2 K D rfl Hown.out hK.out _ _ _ rfl rfl (keyOf3 hk) _ [] (plainElem_int Try.underlying3 (idx_wf i (by omega))) ?_; intro w4 hown4 hgrow4)
  have hg4 : W3.grownBy w4 (some b2) := ⟨hgrow4.os, hgrow4.tape, hgrow4.output, hgrow4.size, hgrow4.block⟩
  obtain ⟨hP4, hT4⟩ := Hmk.out w4 _ _ _ hown4 (hL.put k i) hg4
  go_end0
  exact ⟨rfl, hP4, HT3.out.trans hT4 (fun j hj => .inl hj)⟩
end Go.Proofs.Ytdeefnhpechaiaa.PileC
