/- Contracts of a pile's methods: New, Push, Len, Peek, Rank. -/
import Derived.Test.YtdeefnhpechaiaaPileE
import Derived.Laws.Cover3
namespace Go.Proofs.Ytdeefnhpechaiaa.PileF
set_option linter.unusedVariables false
open Go.RowKit Go.Maps Go.Proofs.YtdeefnhpechaiaaW.PrintWords Go.Proofs.YtdeefnhpechaiaaW.PrintLast Go.Proofs.YtdeefnhpechaiaaW.PrintMore Go.Proofs.Ytdeefnhpechaiaa.PileP Go.Proofs.Ytdeefnhpechaiaa.PileC Go.Proofs.Ytdeefnhpechaiaa.PileD Go.Proofs.Ytdeefnhpechaiaa.PileE Go.Proofs.Ytdeefnhpechaiaa.Q
theorem zero3 (w : World) : (zeroValue 3).run Try.prog w = .ok (.int .i64 0) w := by kernel_rfl
theorem info51 : (Try.prog.info? 51).map (fun i => (i.zero, i.size, i.bytes)) = some (some (.agg #[(.int .i64 0), (.int .i64 0)]), 2, 16) := by kernel_rfl
/-- A pile that may be used: a heap, and each key stands where the map tells. -/
def Good (W : World) (B g : Nat) (l : List It) (K : Nat) (F : Nat → Prop) : Prop := ∃ look, IsP W B g l look K F ∧ PileP.Keyed look l ∧ Heap l
theorem Good.below {W W1 : World} {B g K : Nat} {l : List It} {F : Nat → Prop} (h : Good W B g l K F) (hb : Below W.heap.size W W1) : Good W1 B g l K F := by
  obtain ⟨look, h1, h2, h3⟩ := h
  exact ⟨look, h1.below hb, h2, h3⟩
theorem Good.other {W W1 : World} {B g K : Nat} {l : List It} {F F1 : Nat → Prop} (h : Good W B g l K F) (ht : Turn W W1 F1) (hd : ∀ k, F k → ¬ F1 k) : Good W1 B g l K F := by
  obtain ⟨look, h1, h2, h3⟩ := h
  exact ⟨look, h1.other ht hd, h2, h3⟩
theorem Good.foot {W : World} {B g K : Nat} {l : List It} {F : Nat → Prop} (h : Good W B g l K F) : ∀ k, F k → B ≤ k ∧ k < W.heap.size := by
  obtain ⟨look, h1, h2, h3⟩ := h
  exact h1.foot
/-- The key is on no place, or on one. -/
theorem IsP.has {W : World} {b K : Nat} {D : DataW Unit} {look : Int → Option Nat} (hL : Lk D look) (key : Int) : Maps.has D (.int .i64 key) = (look key).isSome := by
  have h := hL.2 key
  cases hl : look key with
  | none => rw [hl] at h; exact h
  | some i => rw [hl] at h; exact h.1
theorem Lk.at {D : DataW Unit} {look : Int → Option Nat} (hL : Lk D look) {key : Int} {i : Nat} (hl : look key = some i) {c : Int} (h : D.atKey (.int .i64 key) (.lit (.int .i64 0)) = .lit (.int .i64 c)) : c = (i : Int) := by
  have h2 := hL.2 key
  rw [hl] at h2
  rw [h2.2] at h
  injection h with h
  injection h with _ h
  exact h.symm
/-- New. -/
theorem new_c (w : World) (B : Nat) (hB : B ≤ w.heap.size) : Calls Try.prog 9 #[] w fun e w' => ∃ (g : Nat) (F : Nat → Prop), e = .returned (.pointer (some ⟨g, 0, none⟩)) ∧ Hid (Good w' B g [] 0 F) ∧ (∀ k, F k → w.heap.size ≤ k) ∧ Below w.heap.size w w' := by
  have hu49 := Try.underlying49
  have hmm := @run_makeMap Try.prog
  go_enter Try.func9, Try.ntmps9
  go_wp2
  go_ret
  refine ⟨w.heap.size + 1, fun k => k = w.heap.size + 1 ∨ k = w.heap.size ∨ some k = Value.ownBlock (.slice none 0 0), rfl, ⟨fun _ => none, ⟨.slice none 0 0, w.heap.size, .map [], ?_, own_nil _ _ _ _, ?_, by omega, hB, Lk.empty, fun x hx => by simp at hx, rfl⟩, PileP.Keyed.nil, fun j h0 hj => by simp at hj⟩, ?_, ?_⟩
  · have := blk_new (w.alloc (.map #[] 0)) (.cells #[.slice none 0 0, .map (some w.heap.size)] 49)
    rw [World.size_alloc] at this
    exact this
  · exact (World.ownsMap_made w Try.prog 3 PE).alloc _
  · rintro k (rfl | rfl | h)
    · omega
    · omega
    · cases h
  · exact ((Below.refl _ _).alloc (Nat.le_refl _) _).alloc (by simp) _
/-- Len. -/
theorem len_c (W : World) (B g : Nat) (l : List It) (K : Nat) (F : Nat → Prop) (h : Good W B g l K F) : Calls Try.prog 12 #[.pointer (some ⟨g, 0, none⟩)] W fun e w' => e = .returned (.int .i64 (l.length : Int)) ∧ Drawn0 W w' := by
  obtain ⟨look, ⟨v, b, D, h1, h2, -⟩, -⟩ := h
  obtain ⟨A, c, rfl⟩ := own_slice h2
  have hcell : W.cell? ⟨g, 0, none⟩ = some (.slice A l.length c) := (blk_cell h1 0).trans rfl
  clear h1 h2
  go_enter Try.func12, Try.ntmps12
  go_wp2
  go_ret
  exact ⟨rfl, ⟨0, rfl⟩⟩
/-- Peek. -/
theorem peek_c (W : World) (B g : Nat) (l : List It) (K : Nat) (F : Nat → Prop) (h : Good W B g l K F) : Calls Try.prog 22 #[.pointer (some ⟨g, 0, none⟩)] W fun e w' => e = .returned (.tuple #[.int .i64 (at_ l 0).1, .int .i64 (at_ l 0).2, .bool (decide (0 < l.length))]) ∧ Drawn0 W w' := by
  obtain ⟨look, hP, -⟩ := h
  by_cases h0 : l.length = 0
  · obtain rfl : l = [] := List.eq_nil_of_length_eq_zero h0
    obtain ⟨v, b, D, h1, h2, -⟩ := hP
    obtain ⟨A, c, rfl⟩ := own_slice h2
    have hcell : W.cell? ⟨g, 0, none⟩ = some (.slice A 0 c) := (blk_cell h1 0).trans rfl
    clear h1 h2 h0
    go_enter Try.func22, Try.ntmps22
    go_wp2
    go_ret3
    exact ⟨rfl, ⟨0, rfl⟩⟩
  · obtain ⟨rb, c, b, hg, hlc, hrl, hBr, hcs, hfs, -⟩ := hP.cells 0 (by omega)
    obtain ⟨hc1, hc2⟩ := hcs 0 (by omega)
    have hcell : W.cell? ⟨g, 0, none⟩ = some (.slice (some ⟨rb, 0, none⟩) l.length c) := (blk_cell hg 0).trans rfl
    simp only [Nat.zero_mul, Nat.zero_add] at hc1 hc2
    have hd : decide (0 < l.length) = true := decide_eq_true (by omega)
    have hlz : ((l.length : Int) == 0) = false := beq_eq_false_iff_ne.2 (by omega)
    have hlp : (0 : Int) < (l.length : Int) := by omega
    rw [hd]
    clear hg hcs hfs h0 hd
    generalize at_ l 0 = x at *
    go_enter Try.func22, Try.ntmps22
    go_wp2
    go_quiet (fail)
    go_wp2
    go_ret3
    exact ⟨rfl, ⟨_, rfl⟩⟩
/-- Rank. -/
theorem rank_c (W : World) (B g : Nat) (l : List It) (K : Nat) (F : Nat → Prop) (look : Int → Option Nat) (hP : IsP W B g l look K F) (hk : PileP.Keyed look l) (key : Int) (hw : (Lit.int .i64 key).wf = true) :
    Calls Try.prog 13 #[.pointer (some ⟨g, 0, none⟩), .int .i64 key] W fun e w' => e = .returned (.tuple #[.int .i64 (((look key).map fun i => (at_ l i).2).getD 0), .bool (look key).isSome]) ∧ Below W.heap.size W w' := by
  obtain ⟨v, b, D, h1, hown, hL, hbl, -⟩ := hP.map
  have hcell1 : W.cell? ⟨g, 1, none⟩ = some (.map (some b)) := (blk_cell h1 1).trans rfl
  have Hown := Lib.hid hown
  have HL := Lib.hid hL
  have hhas := IsP.has (W := W) (b := b) (K := K) hL key
  clear hown hL
  cases hl : look key with
  | none =>
    rw [hl] at hhas
    clear h1
    have hhas : Maps.has D (.int .i64 key) = false := hhas
    go_enter Try.func13, Try.ntmps13
    go_wp2_with (at_lookup; refine wpList_lookup_own_ok_int _ rfl _ _ 47 rfl 3 3 .i64 (int_keyed Try.underlying3) Try.underlying47 Try.underlying3 (zero3 _) b K D rfl Hown.out _ _ rfl (keyOf3 hw) ?_; intro ci hat hwc)
    go_ret2
    exact ⟨rfl, Below.refl _ _⟩
  | some i =>
    rw [hl] at hhas
    have hhas : Maps.has D (.int .i64 key) = true := hhas
    obtain ⟨hi, -⟩ := (hk key i).1 hl
    obtain ⟨rb, c, b', hg, hlc, hrl, hBr, hcs, hfs, -⟩ := hP.cells i hi
    obtain ⟨hc1, hc2⟩ := hcs i hi
    have hcell : W.cell? ⟨g, 0, none⟩ = some (.slice (some ⟨rb, 0, none⟩) l.length c) := (blk_cell hg 0).trans rfl
    have hil : (i : Int) < (l.length : Int) := by omega
    have Hl := Lib.hid hl
    clear h1 hg hcs hfs hl hP hk
    simp only [Option.map_some, Option.getD_some, Option.isSome_some]
    generalize at_ l i = x at *
    go_enter Try.func13, Try.ntmps13
    go_wp2_with (at_lookup; refine wpList_lookup_own_ok_int _ rfl _ _ 47 rfl 3 3 .i64 (int_keyed Try.underlying3) Try.underlying47 Try.underlying3 (zero3 _) b K D rfl Hown.out _ _ rfl (keyOf3 hw) ?_; intro ci hat hwc; obtain rfl := Lk.at HL.out Hl.out hat; clear hat hwc)
    go_ret2
    exact ⟨rfl, Below.refl _ _⟩
theorem cell_two (w : World) (x y : Value) (t : TypeId) : ∀ j u, [x, y][j]? = some u → (w.alloc (.cells #[x, y] t)).cell? ((⟨w.heap.size, 0, none⟩ : Addr).add j) = some u := by
  intro j u hj
  match j, hj with
  | 0, hj => simp at hj; subst hj; simp [Addr.add]
  | 1, hj => simp at hj; subst hj; simp [Addr.add]
theorem set_last (l : List It) (x y : It) : (l ++ [x]).set l.length y = l ++ [y] := by
  rw [List.set_append_right _ _ (Nat.le_refl _), Nat.sub_self]
  rfl
theorem IsP.row {W : World} {B g K : Nat} {l : List It} {look : Int → Option Nat} {F : Nat → Prop} (h : IsP W B g l look K F) : ∃ A c, W.cell? ⟨g, 0, none⟩ = some (.slice A l.length c) ∧ l.length ≤ c := by
  obtain ⟨v, b, D, h1, h2, -⟩ := h
  obtain ⟨A, c, rfl⟩ := own_slice h2
  refine ⟨A, c, (blk_cell h1 0).trans rfl, ?_⟩
  rcases h2.2 with ⟨h, h0⟩ | ⟨g', cap, cur, h, _, _, hlc, _⟩
  · omega
  · injection h with _ _ h
    omega
/-- The row has got one more. -/
theorem IsP.append {W W2 : World} {B g K : Nat} {l : List It} {look : Int → Option Nat} {F : Nat → Prop} (hB : B ≤ W.heap.size) (h : IsP W B g l look K F) {v : Value} {b : Nat} (hg : W.heap[g]? = some (.cells #[v, .map (some b)] 49 (0, 0))) {v' : Value} {o : Obj}
    (hown : W2.ownsRow B 51 2 v' (l.length + 1) (fl l ++ [.int .i64 0, .int .i64 0])) (hgr : (W.alloc o).grownBy W2 v.ownBlock) (hloc : v'.ownBlock = v.ownBlock ∨ v'.ownBlock = some (W.alloc o).heap.size) :
    W2.cell? ⟨g, 0, none⟩ = some v ∧ W2.frozen? ⟨g, 0, none⟩ = false ∧ ∃ F', IsP (W2.setCell ⟨g, 0, none⟩ v') B g (l ++ [(0, 0)]) look K F' ∧ Turn W (W2.setCell ⟨g, 0, none⟩ v') F ∧ ∀ k, F' k → F k ∨ W.heap.size ≤ k := by
  obtain ⟨v0, b0, D, h1, h2, h3, h4, h5, h6, h7, rfl⟩ := h
  rw [h1] at hg
  injection hg with hg
  injection hg with hg
  have hgl : [v0, Value.map (some b0)] = [v, .map (some b)] := congrArg Array.toList hg
  injection hgl with e1 e2
  injection e2 with e2 _
  injection e2 with e2
  injection e2 with e2
  subst e1 e2
  clear hg
  have hgn : g < W.heap.size := blk_lt h1
  have hgv : some g ≠ v0.ownBlock := fun e => by
    obtain ⟨cells, hc⟩ := own_typed h2 g e.symm
    rw [h1] at hc; injection hc with hc; injection hc with _ hc; cases hc
  have h1' : W2.heap[g]? = some (.cells #[v0, .map (some b0)] 49 (0, 0)) := blk_grown (blk_alloc h1 o) hgr hgv
  have hgv' : some g ≠ v'.ownBlock := fun e => by
    obtain ⟨cells, hc⟩ := own_typed hown g e.symm
    rw [h1'] at hc; injection hc with hc; injection hc with _ hc; cases hc
  obtain ⟨es, ck, hm, hr⟩ := h3
  have hbn : b0 < W.heap.size := (Array.getElem?_eq_some_iff.1 hm).1
  have hbg : b0 ≠ g := by
    rintro rfl
    rw [h1] at hm; cases hm
  have hbv : some b0 ≠ v0.ownBlock := fun e => by
    obtain ⟨cells, hc⟩ := own_typed h2 b0 e.symm
    rw [hm] at hc; cases hc
  have old : ∀ k, k < W.heap.size → some k ≠ v0.ownBlock → W2.heap[k]? = W.heap[k]? := fun k hk hn =>
    (hgr.block k (by simp; omega) hn).trans (Below.heap_alloc W o k hk)
  refine ⟨(blk_cell h1' 0).trans rfl, blk_frozen h1' 0, fun k => k = g ∨ k = b0 ∨ some k = v'.ownBlock, ⟨v', b0, D, blk_set h1' 0 v', ?_, ⟨es, ck, ?_, hr⟩, h4, h5, h6, ?_, rfl⟩, ⟨hgr.os, hgr.tape, hgr.output, ?_, fun k hk hn => ?_⟩, ?_⟩
  · rw [List.length_append, List.length_singleton, fl_snoc]
    exact own_setCell hown (p := ⟨g, 0, none⟩) hgv' v'
  · exact (Below.heap_setCell W2 ⟨g, 0, none⟩ v' b0 hbg).trans ((old b0 hbn hbv).trans hm)
  · intro x hx
    rcases List.mem_append.1 hx with hx | hx
    · exact h7 x hx
    · obtain rfl := List.mem_singleton.1 hx
      exact idx_wf 0 (by omega)
  · have := hgr.size
    simp [World.setCell] at this ⊢
    omega
  · refine (Below.heap_setCell W2 ⟨g, 0, none⟩ v' k (fun e => hn (.inl e))).trans (old k hk (fun e => hn (.inr (.inr e))))
  · rintro k (h | h | h)
    · exact .inl (.inl h)
    · exact .inl (.inr (.inl h))
    · rcases hloc with e | e
      · exact .inl (.inr (.inr (h.trans e)))
      · rw [e] at h
        injection h with h
        exact .inr (by rw [h]; simp)
theorem eql_map (b : Nat) (W : World) : Sem.run Try.prog (binOp .eql 47 (.map (some b)) (.map none)) W = .ok (.bool false) W := by
  have := run_equal_map_nil W 47 3 3 (some b) Try.underlying47
  simp [binOp, go_sem, this]
theorem eql_map_nil (W : World) : Sem.run Try.prog (binOp .eql 47 (.map none) (.map none)) W = .ok (.bool true) W := by
  have := run_equal_map_nil W 47 3 3 none Try.underlying47
  simp [binOp, go_sem, this]
set_option maxHeartbeats 4000000 in
set_option maxRecDepth 100000 in
/-- Push, of a key that is there. -/
theorem push_no (W : World) (B g : Nat) (l : List It) (K : Nat) (F : Nat → Prop) (look : Int → Option Nat) (hP : IsP W B g l look K F) (key rank : Int) (hw : (Lit.int .i64 key).wf = true) (i : Nat) (hl : look key = some i) :
    Calls Try.prog 10 #[.pointer (some ⟨g, 0, none⟩), .int .i64 key, .int .i64 rank] W fun e w' => e = .returned (.bool false) ∧ Below W.heap.size W w' := by
  obtain ⟨v, b, D, h1, hown, hL, hbl, -⟩ := hP.map
  have hcell1 : W.cell? ⟨g, 1, none⟩ = some (.map (some b)) := (blk_cell h1 1).trans rfl
  have Hown := Lib.hid hown
  have hhas := IsP.has (W := W) (b := b) (K := K) hL key
  rw [hl] at hhas
  have hhas : Maps.has D (.int .i64 key) = true := hhas
  have hu47 := Try.underlying47
  have hmn := eql_map b
  clear hown hL h1 hP hl
  go_enter Try.func10, Try.ntmps10
  go_wp2_with (at_lookup; refine wpList_lookup_own_ok_int _ rfl _ _ 47 rfl 3 3 .i64 (int_keyed Try.underlying3) Try.underlying47 Try.underlying3 (zero3 _) b K D rfl Hown.out _ _ rfl (keyOf3 hw) ?_; intro ci hat hwc; clear hat hwc)
  go_ret
  exact ⟨rfl, Below.refl _ _⟩
set_option maxHeartbeats 4000000 in
set_option maxRecDepth 100000 in
/-- Push, of a key that is not there. -/
theorem push_yes (W : World) (B g : Nat) (hB : B ≤ W.heap.size) (l : List It) (hl : l.length < 1000) (K : Nat) (hK : Hid (K + 5000 < maxLen)) (F : Nat → Prop) (look : Int → Option Nat) (hP : IsP W B g l look K F) (hk : PileP.Keyed look l) (hh : Heap l) (key rank : Int) (hw : (Lit.int .i64 key).wf = true) (hn : look key = none) :
    Calls Try.prog 10 #[.pointer (some ⟨g, 0, none⟩), .int .i64 key, .int .i64 rank] W fun e w' => e = .returned (.bool true) ∧ ∃ (l' : List It) (K' : Nat) (F' : Nat → Prop), Hid (Good w' B g l' K' F') ∧ Hid (l'.Perm (l ++ [(key, rank)])) ∧ K' ≤ K + 5000 ∧ Hid (Turn W w' F) ∧ ∀ k, F' k → F k ∨ W.heap.size ≤ k := by
  obtain ⟨v, b, D, h1, hown, hL, hbl, -⟩ := hP.map
  have hcell1 : W.cell? ⟨g, 1, none⟩ = some (.map (some b)) := (blk_cell h1 1).trans rfl
  have hcell0 : W.cell? ⟨g, 0, none⟩ = some v := (blk_cell h1 0).trans rfl
  have Hown := Lib.hid hown
  have hhas := IsP.has (W := W) (b := b) (K := K) hL key
  rw [hn] at hhas
  have hhas : Maps.has D (.int .i64 key) = false := hhas
  have hmn := eql_map b
  have hrow : Hid (∃ v, W.heap[g]? = some (.cells #[v, .map (some b)] 49 (0, 0)) ∧ W.ownsRow B 51 2 v l.length (fl l)) := by
    obtain ⟨v1, b1, D1, e1, e2, -⟩ := hP
    have := e1
    rw [h1] at this
    injection this with this
    injection this with this
    have hgl : [v, Value.map (some b)] = [v1, .map (some b1)] := congrArg Array.toList this
    injection hgl with x1 x2
    injection x2 with x2 _
    injection x2 with x2
    injection x2 with x2
    subst x1 x2
    exact ⟨_, e1, e2⟩
  have HR : Hid (W.ownsRow B 51 2 v l.length (fl l)) := by
    obtain ⟨v1, e1, e2⟩ := hrow.out
    rw [h1] at e1
    injection e1 with e1
    injection e1 with e1
    have hgl : [v, Value.map (some b)] = [v1, .map (some b)] := congrArg Array.toList e1
    injection hgl with x1 x2
    subst x1
    exact e2
  obtain ⟨i0, hi0, hz0, hz1, hz2⟩ := info_parts info51
  have HP := Lib.hid hP
  have Hk := Lib.hid hk
  have Hh := Lib.hid hh
  have Hn := Lib.hid hn
  have H1 := Lib.hid h1
  obtain ⟨Av, cv, rfl⟩ := own_slice HR.out
  clear hown hL h1 hP hn hk hh hrow
  go_enter Try.func10, Try.ntmps10
  go_wp2_with (first
    | (at_lookup; refine wpList_lookup_own_ok_int _ rfl _ _ 47 rfl 3 3 .i64 (int_keyed Try.underlying3) Try.underlying47 Try.underlying3 (zero3 _) b K D rfl Hown.out _ _ rfl (keyOf3 hw) ?_; intro ci hat hwc; clear hat hwc)
    | (at_builtin; refine wpList_append_own_at _ rfl _ _ 46 rfl B 51 i0 (.agg #[.int .i64 0, .int .i64 0]) 2 16 Try.underlying46 hi0 hz0 hz1 hz2 rfl (by decide) _ _ _ rfl (HR.out.alloc _) ⟨W.heap.size, 0, none⟩ 1 1 [.int .i64 0, .int .i64 0] rfl rfl (cell_two _ _ _ _) (by simp [Value.oneCell']) (by unfold maxLen; omega) (by omega) (by simp; omega) ?_; intro v' w1 hown' hgrow hnil hloc; obtain ⟨Ag, cg, rfl⟩ := own_slice hown'; obtain ⟨hq1, hq2, F1, hP1, hT1, hF1⟩ := IsP.append hB HP.out H1.out hown' hgrow hloc; have HP1 := Lib.hid hP1; have HT1 := Lib.hid hT1; clear hP1 hT1 hown' hgrow hnil hloc))
  generalize w1.setCell ⟨g, 0, none⟩ (.slice Ag (l.length + 1) cg) = w2 at *
  have hlen : (l ++ [((0 : Int), (0 : Int))]).length = l.length + 1 := by simp
  have HKa : Hid (K < maxLen) := by have h := hK.out; show K < maxLen; omega
  refine (set_c w2 B g (l ++ [(0, 0)]) look K F1 HP1.out (by rw [hlen]; omega) HKa l.length (by rw [hlen]; omega) key rank hw).mono ?_
  rw [set_last]
  rintro e w3 ⟨rfl, hP3, hT3⟩
  obtain ⟨A3, c3, hcell3, hlc3⟩ := IsP.row hP3
  have HP3 := Lib.hid hP3
  have HT3 := Lib.hid hT3
  have hlen2 : (l ++ [(key, rank)]).length = l.length + 1 := by simp
  rw [hlen2] at hcell3
  clear hP3 hT3 hq1 hq2 hlen hlc3
  go_wp2_with fail
  have hk3 : PileP.Keyed (upd look key (some l.length)) (l ++ [(key, rank)]) := Hk.out.snoc Hn.out rank
  have HKb : Hid (K + 1 + 2000 < maxLen) := by have h := hK.out; show K + 1 + 2000 < maxLen; omega
  refine (up_c w3 B g (l ++ [(key, rank)]) _ (K + 1) F1 HP3.out hk3 (by rw [hlen2]; omega) HKb l.length (by rw [hlen2]; omega) (Hh.out.snoc (key, rank)).any).mono ?_
  rintro e w4 ⟨i', l', look', K', rfl, HP4, Hk4, Hp4, hl4, hi4, hK4, Hs4, HT4⟩
  clear hcell3
  go_wp2_with fail
  go_ret
  refine ⟨rfl, l', K', F1, ⟨look', HP4.out, Hk4.out, ?_⟩, Hp4.out, by omega, ((HT1.out.trans HT3.out hF1).trans HT4.out hF1), hF1⟩
  rcases Hs4.out with ⟨rfl, -, hs⟩ | h
  · exact (Hh.out.snoc (key, rank)).stop hs
  · exact h
end Go.Proofs.Ytdeefnhpechaiaa.PileF
