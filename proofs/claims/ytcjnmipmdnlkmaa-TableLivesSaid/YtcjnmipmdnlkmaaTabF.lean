/- Going through a table: the contract of From's function value, and of 'from', which collects what it yields. -/
import Derived.Test.YtcjnmipmdnlkmaaTabD
import Derived.RangeFuncNested
import Derived.RangeFuncBound
import Derived.RangeFuncCalls
import Derived.RangeFuncLeaves
import Derived.RangeFuncBox
import Derived.Shelf.Abstract
import Derived.WalkKit
import Derived.OwnWalkIn
import Derived.TacticsInMore
import Derived.LoopNIn
import Derived.LoopIn
namespace Go.Proofs.Ytcjnmipmdnlkmaa.TabF
set_option linter.unusedVariables false
open Go.RowKit Go.Shelf Go.Proofs.YtcjnmipmdnlkmaaW.PrintWords Go.Proofs.YtcjnmipmdnlkmaaW.PrintLast Go.Proofs.YtcjnmipmdnlkmaaW.PrintMore Go.Proofs.Ytcjnmipmdnlkmaa.TabP Go.Proofs.Ytcjnmipmdnlkmaa.TabE Go.Proofs.Ytcjnmipmdnlkmaa.TabC Go.Proofs.Ytcjnmipmdnlkmaa.TabD Go.Proofs.Ytcjnmipmdnlkmaa.Q
attribute [local go_sem] Oper.semAt_some
abbrev encs (x : Pr) : Array Value := #[.string x.1, .string x.2]
set_option maxRecDepth 100000 in
set_option maxHeartbeats 2000000 in
theorem from1_in (F : Fence) (n : Nat) (hF : F.fn 26) (hro : F.round = none) (hn : 1 ≤ n) (l Bn n₀ : Nat) (A : Option Addr) (c : Nat) (xs : List Pr) (hl : xs.length ≤ 1000) (hc : xs.length ≤ c) (J Jx : List Pr → World → Prop)
    (hY : ∀ pre x W, J pre W → pre.length < xs.length → YieldAt F (n - 1) Try.prog l (encs x) W fun e W' =>
      (e = .returned (.bool true) ∧ J (pre ++ [x]) W' ∧ Below n₀ W W') ∨ (e = .returned (.bool false) ∧ Jx (pre ++ [x]) W'))
    (W w0 : World) (hn0 : n₀ = w0.heap.size) (hBW : Below n₀ w0 W) (hJ : AbidesFrom W.heap.size J) (hBn : W.cell? ⟨Bn, 0, none⟩ = some (.slice A xs.length c)) (hC : Kd.C k57 w0 A xs.length (xs.map mk57)) (h0 : J [] W) :
    CallsIn F n Try.prog 26 #[.func (.yield l) #[] #[], .pointer (some ⟨Bn, 0, none⟩)] W fun e W' => (∃ v, e = .returned v) ∧
      ((∃ ys, ys = xs ∧ J ys W') ∨ (∃ pre, pre <+: xs ∧ Jx pre W')) := by
  subst hn0
  refine callsIn_of_wp Try.func26 rfl hF ?_ hro
  simp only [Try.ntmps26, List.size_toArray, List.length_cons, List.length_nil, Nat.reduceAdd, Nat.reduceSub, Array.replicate_succ, Array.replicate_zero, List.push_toArray, List.append_toArray, List.nil_append, List.cons_append]
  gi_wp2
  gi_loopw [7] (fun i wr => ∃ k : Nat, k ≤ xs.length ∧ i = .int .i64 k ∧ Hid (J (xs.take k) wr) ∧ Hid (Below w0.heap.size w0 wr) ∧ Hid (W.heap.size ≤ wr.heap.size))
    (fun i _ => xs.length - (intOf i).toNat)
  case atStart => exact ⟨0, Nat.zero_le _, rfl, h0, hBW, Nat.le_refl _⟩
  case round =>
    obtain ⟨k, hk, rfl, HJ, HB, HS⟩ := hrel
    by_cases hlt : k < xs.length
    · have hx : xs[k]? = some xs[k] := List.getElem?_eq_getElem hlt
      have hC' := Kd.C_below hC HB.out
      obtain ⟨ad, rfl, hk1, hk2⟩ := at_T57 hC' (k : Int) (by omega) (by omega)
      rw [rd57 xs k _ hx] at hk1 hk2
      simp only [Int.toNat_natCast, mk57] at hk1 hk2
      have HT : Hid (xs.take (k + 1) = xs.take k ++ [xs[k]]) := List.take_succ_eq_append_getElem hlt
      have HJa := hJ _ _ _ none HJ.out (World.grownBy_alloc wr (.cells #[.string xs[k].1, .string xs[k].2] 57) none) (fun r e => by cases e)
      obtain ⟨fn, tmps, assign, body, hy, hR⟩ := hY _ xs[k] _ HJa (by rw [List.length_take]; omega)
      dsimp only [encs] at hy
      have HB2 := Lib.hid (HB.out.alloc HB.out.size (.cells #[.string xs[k].1, .string xs[k].2] 57))
      have HR := Lib.hid hR
      clear hx hC' HJa hR
      generalize xs[k] = x at hk1 hk2 HT hy HB2 HR
      gi_wp2
      refine (HR.out).mono ?_
      rintro e W3 (⟨rfl, hJ3, hk3⟩ | ⟨rfl, hJx3⟩)
      · rw [← HT.out] at hJ3
        have HJ3 := Lib.hid hJ3
        have HB3 := Lib.hid (HB2.out.trans hk3)
        have HS3 := Lib.hid hk3.size
        clear hJ3 hk3
        gi_wp2
        go_roundw
        case rel => exact ⟨k + 1, by omega, by simp, HJ3.out, HB3.out, Nat.le_trans HS.out (Nat.le_trans (by simp) HS3.out)⟩
        case measure => simp [intOf]; omega
      · rw [← HT.out] at hJx3
        have HJx3 := Lib.hid hJx3
        clear hJx3
        gi_wp2
        refine bodyPost_ret (results_none rfl _ _ _) rfl ?_
        exact ⟨⟨_, rfl⟩, .inr ⟨_, List.take_prefix _ _, HJx3.out⟩⟩
    · obtain rfl : k = xs.length := by omega
      have HJ' := HJ.out
      rw [List.take_length] at HJ'
      have HJ2 := Lib.hid HJ'
      clear HJ'
      gi_wp2
      go_end0
      exact ⟨⟨_, rfl⟩, .inl ⟨_, rfl, HJ2.out⟩⟩
/-- A value that From handed back: it goes through the pairs xs, which are still there. -/
def IsSeq (W : World) (q : Nat) (xs : List Pr) : Prop := ∃ (A : Option Addr) (c i : Nat) (l : List Pr) (B : Nat), xs = l.drop i ∧ i ≤ l.length ∧ l.length ≤ 1000 ∧ l.length ≤ c ∧
  W.heap[q]? = some (.cells #[.slice (if c = i then A else A.map (·.add (i * 2))) xs.length (c - i)] 39 (0, 0)) ∧ Kd.R k57 57 W B (fun _ => True) (.slice A l.length c) (l.map mk57)
theorem IsSeq.below {W W1 : World} {q : Nat} {xs : List Pr} (h : IsSeq W q xs) (hb : Below W.heap.size W W1) : IsSeq W1 q xs := by
  obtain ⟨A, c, i, l, B, h1, h2, h3, h4, h5, h6⟩ := h
  exact ⟨A, c, i, l, B, h1, h2, h3, h4, blk_below h5 hb, Kd.R_below h6 hb⟩
theorem IsSeq.lt {W : World} {q : Nat} {xs : List Pr} (h : IsSeq W q xs) : q < W.heap.size := by
  obtain ⟨A, c, i, l, B, h1, h2, h3, h4, h5, h6⟩ := h
  exact blk_lt h5
theorem IsSeq.len {W : World} {q : Nat} {xs : List Pr} (h : IsSeq W q xs) : xs.length ≤ 1000 := by
  obtain ⟨A, c, i, l, B, h1, h2, h3, h4, h5, h6⟩ := h
  rw [h1, List.length_drop]; omega
/-- A table is written: what goes through its elder row stays. -/
theorem IsSeq.put {W W1 : World} {q B k : Nat} {xs l : List Pr} (h : IsSeq W q xs) (hk : IsT W B k l) (hg : W.grownBy W1 (some k)) : IsSeq W1 q xs := by
  obtain ⟨A, c, i, l0, B0, h1, h2, h3, h4, h5, h6⟩ := h
  obtain ⟨cells, hb⟩ := hk.blk
  have hne : q ≠ k := by
    rintro rfl
    rw [h5] at hb
    injection hb with hb
    injection hb with _ hb
    cases hb
  refine ⟨A, c, i, l0, B0, h1, h2, h3, h4, blk_grown h5 hg (by simpa using hne), ?_⟩
  exact Kd.R_mono (Kd.R_grown (Kd.R_types h6 hb (fun j hj => by have := types57 hj; omega)) hg (fun k' hk' => by simpa using hk'.2)) (fun _ h => h.1)
theorem lenm57 (l : List Pr) : (l.map mk57).length = l.length := List.length_map ..
/-- The contract of a value that From handed back. -/
theorem seq_stops (F : Fence) (n : Nat) (hF : F.fn 26) (hro : F.round = none) (hn : 1 ≤ n) (q : Nat) (xs : List Pr) (n₀ : Nat) (w0 w : World) (hn0 : n₀ = w0.heap.size) (hB : Below n₀ w0 w) (hq : q < w.heap.size)
    (A : Option Addr) (c : Nat) (hl : xs.length ≤ 1000) (hc : xs.length ≤ c) (hcell : w.cell? ⟨q, 0, none⟩ = some (.slice A xs.length c)) (hC : Kd.C k57 w0 A xs.length (xs.map mk57)) :
    SeqStopsK F n Try.prog 26 #[.pointer (some ⟨q, 0, none⟩)] encs (Below n₀) (fun ys => ys = xs) (fun pre => pre <+: xs) xs.length w := fun l J Jx W hW hJ _ hY h0 =>
  from1_in F n hF hro hn l q n₀ A c xs hl hc J Jx hY W w0 hn0 (hB.trans (hW.mono (by rw [hn0]; exact (hn0 ▸ hB).size))) hJ ((hW.cell (p := ⟨q, 0, none⟩) hq).trans hcell) hC h0
/-- What a sequence reads. -/
theorem IsSeq.reads {W : World} {q : Nat} {xs : List Pr} (h : IsSeq W q xs) : ∃ (A : Option Addr) (c : Nat), xs.length ≤ c ∧ W.cell? ⟨q, 0, none⟩ = some (.slice A xs.length c) ∧ Kd.C k57 W A xs.length (xs.map mk57) := by
  obtain ⟨A, c, i, l, B, h1, h2, h3, h4, h5, h6⟩ := h
  obtain ⟨A', c', he, hc, hC⟩ := Kd.R_reads h6
  injection he with e1 e2 e3
  clear e2
  subst e1 e3
  have hCd := Kd.C_drop hC (m := i) (by rw [lenm57]; exact h2) (c := c) (by rw [lenm57]; exact h4)
  refine ⟨_, c - i, by rw [h1, List.length_drop]; omega, (blk_cell h5 0).trans rfl, ?_⟩
  have hlen : ((l.map mk57).drop i).length = xs.length := by rw [h1, List.length_drop, List.length_drop, lenm57]
  rw [hlen, ← List.map_drop, ← h1] at hCd
  exact hCd
set_option maxRecDepth 100000 in
/-- From. -/
theorem from_c (l : List Pr) (hr : Rising l) (hl : l.length ≤ 1000) (key : ByteArray) (w0 w : World) (hw : Below w0.heap.size w0 w) (B g : Nat) (hT0 : IsT w0 B g l) :
    Calls Try.prog 23 #[.pointer (some ⟨g, 0, none⟩), .string key] w fun e w' => ∃ q A c, e = .returned (.func (.func 26) #[] #[.pointer (some ⟨q, 0, none⟩)]) ∧ IsSeq w' q (l.drop (cnt l key)) ∧ w.heap.size ≤ q ∧ Below w.heap.size w w' ∧
      w'.cell? ⟨q, 0, none⟩ = some (.slice A (l.drop (cnt l key)).length c) ∧ (l.drop (cnt l key)).length ≤ c ∧ Kd.C k57 w0 A (l.drop (cnt l key)).length ((l.drop (cnt l key)).map mk57) := by
  have HT0 := Lib.hid hT0
  have hT := IsT.below hT0 hw
  clear hT0
  obtain ⟨A, c, h1, h2, h3⟩ := hT
  rw [lenm57] at h1 h3
  obtain ⟨A', c', he, hc, hC⟩ := Kd.R_reads h3
  injection he with e1 e2 e3
  clear e2
  subst e1 e3
  have hs := seeks l hr hl key
  have hi := cnt_le l key
  have HS := Lib.hid (hs.calls (w.alloc (.cells #[.slice none 0 0] 39)) A c (Kd.C_below hC ((Below.refl _ _).alloc (Nat.le_refl _) _)) hc)
  rw [lenm57] at hc HS
  have HD : Hid (∃ A2, A2 = (if c = cnt l key then A else A.map (·.add (cnt l key * 2))) ∧ Kd.C k57 w0 A2 (l.drop (cnt l key)).length ((l.drop (cnt l key)).map mk57)) := by
    obtain ⟨A3, c3, h31, -, h33⟩ := HT0.out
    have := blk_below h31 hw
    rw [this] at h1
    injection h1 with h1
    injection h1 with h1
    injection h1 with h1
    injection h1 with h1
    injection h1 with h1 _ h1'
    subst h1 h1'
    obtain ⟨-, hc3, hC3⟩ := Kd.R_reads' h33
    rw [lenm57] at hC3 hc3
    refine ⟨_, rfl, ?_⟩
    have hlm : (l.map mk57).length = l.length := lenm57 l
    have hC4 : Kd.C k57 w0 A3 (l.map mk57).length (l.map mk57) := by rw [hlm]; exact hC3
    have hCd := Kd.C_drop hC4 (m := cnt l key) (by rw [hlm]; exact hi) (c := c3) (by rw [hlm]; exact hc)
    rw [← List.map_drop, lenm57] at hCd
    exact hCd
  generalize hi' : cnt l key = i at *
  have hcell : w.cell? ⟨g, 0, none⟩ = some (.slice A l.length c) := (blk_cell h1 0).trans rfl
  have hcell2 : (w.alloc (.cells #[.slice none 0 0] 39)).cell? ⟨g, 0, none⟩ = some (.slice A l.length c) := (blk_cell (blk_alloc h1 _) 0).trans rfl
  obtain ⟨i0, hi0, hz0, hz1, hz2⟩ := info_parts info57
  have hcut1 := cut_from (P := Try.prog) 39 57 .i64 Try.underlying39 hi0 2 hz1 A l.length c (i : Int) (by omega) (by omega)
  simp only [Int.toNat_natCast] at hcut1
  have H1 := Lib.hid h1
  have H3 := Lib.hid h3
  clear h1 h3 hC hs hi'
  obtain ⟨A1, hA1⟩ : ∃ A1, A1 = (if c = i then A else A.map (·.add (i * 2))) := ⟨_, rfl⟩
  rw [← hA1] at hcut1
  have HA1 := Lib.hid hA1
  clear hA1
  go_enter Try.func23, Try.ntmps23
  go_wp2_with fail
  refine (HS.out).mono ?_
  rintro e w' ⟨rfl, ⟨md, rfl⟩⟩
  go_wp2_with fail
  go_ret
  have hb1 : Below w.heap.size w ((w.alloc (.cells #[.slice none 0 0] 39)).drewN md) := pw_below_drewN ((Below.refl _ _).alloc (Nat.le_refl _) _) md
  have hnew : ((w.alloc (.cells #[.slice none 0 0] 39)).drewN md).heap[w.heap.size]? = some (.cells #[.slice none 0 0] 39 (0, 0)) := blk_new w _
  have hlen : (l.drop i).length = l.length - i := List.length_drop
  obtain ⟨A2, hA2, hC2⟩ := HD.out
  have hA12 : A2 = A1 := hA2.trans HA1.out.symm
  subst hA12
  refine ⟨_, A2, c - i, rfl, ⟨A, c, i, l, B, rfl, hi, hl, hc, ?_, ?_⟩, Nat.le_refl _, hb1.setCell (p := ⟨w.heap.size, 0, none⟩) (Nat.le_refl _) _, ?_, by rw [hlen]; omega, hC2⟩
  · rw [← HA1.out, hlen]
    exact blk_set hnew 0 _
  · exact Kd.R_set (Kd.R_below H3.out hb1) hnew (fun q hq => by have := types57 hq; omega) 0 _
  · rw [hlen]
    exact (blk_cell (blk_set hnew 0 _) 0).trans rfl
/-- From, of a table that is nil. -/
theorem from_nil (key : ByteArray) (w : World) :
    Calls Try.prog 23 #[.pointer none, .string key] w fun e w' => ∃ q, e = .returned (.func (.func 26) #[] #[.pointer (some ⟨q, 0, none⟩)]) ∧ IsSeq w' q [] ∧ w.heap.size ≤ q ∧ Below w.heap.size w w' ∧ w'.cell? ⟨q, 0, none⟩ = some (.slice none 0 0) := by
  go_enter Try.func23, Try.ntmps23
  go_wp2
  go_ret
  refine ⟨_, rfl, ⟨none, 0, 0, [], 0, rfl, Nat.le_refl _, by simp, Nat.le_refl _, ?_, Kd.R_nil _ _ _ _ _⟩, Nat.le_refl _, (Below.refl _ _).alloc (Nat.le_refl _) _, ?_⟩
  · exact blk_new w _
  · exact (blk_cell (blk_new w _) 0).trans rfl
/-! ### from -/
def fl (l : List Pr) : List Value := (l.map fun x => [Value.string x.1, .string x.2]).flatten
theorem fl_snoc (l : List Pr) (x : Pr) : fl (l ++ [x]) = fl l ++ [.string x.1, .string x.2] := by simp [fl]
theorem fl_reps (w : World) (b : Nat) (ok : Nat → Prop) (l : List Pr) : Reps (k31.M w b ok) 2 (l.map mk31) (fl l) := by
  suffices h : ∀ l : List Pr, Reps (k31.M w b ok) 2 (l.reverse.map mk31) (fl l.reverse) by
    have := h l.reverse
    rwa [List.reverse_reverse] at this
  intro l
  induction l with
  | nil => exact Reps.none _ _
  | cons x l ih =>
    rw [List.reverse_cons, fl_snoc, List.map_append]
    exact Reps.snoc ih (k31_mkM _ _ _ (mk31 x)) rfl
theorem R_of_own {w : World} {b : Nat} {v : Value} {l : List Pr} (h : w.ownsRow b 31 2 v l.length (fl l)) : Kd.R k31 31 w b (fun _ => True) v (l.map mk31) := by
  refine ⟨fun _ _ => trivial, fl l, ?_, fl_reps _ _ _ _⟩
  rw [List.length_map]
  exact h
theorem info31 : (Try.prog.info? 31).map (fun i => (i.zero, i.size, i.bytes)) = some (some (.agg #[(.string ⟨#[]⟩), (.string ⟨#[]⟩)]), 2, 32) := by kernel_rfl
theorem cell_two_new (w : World) (x y : Value) (t : TypeId) : ∀ j u, [x, y][j]? = some u → (w.alloc (.cells #[x, y] t)).cell? ((⟨w.heap.size, 0, none⟩ : Addr).add j) = some u := by
  intro j u hj
  match j, hj with
  | 0, hj => simp at hj; subst hj; simp [Addr.add]
  | 1, hj => simp at hj; subst hj; simp [Addr.add]
theorem ge_take {most : Int} {xs pre : List Pr} (hp : pre <+: xs) (h : most ≤ pre.length) (h2 : pre.length ≤ most.toNat) : pre = xs.take most.toNat := by
  obtain ⟨t, rfl⟩ := hp
  have : most.toNat = pre.length := by omega
  rw [this, List.take_left]
theorem equalIn_func_nil {P : Program} (W : World) (d : Nat) (t : TypeId) {ps rs : Array TypeId} {vd : Bool} (h : P.underlying t = some (.func ps rs vd)) (f : Fn) (a b : Array Value) : (Op.equalIn (d + 1) t (.func f a b) .nilFunc).run P W = .ok false W := by
  simp [Op.equalIn, run_underlying h]
theorem equal_func_nil {P : Program} (W : World) (t : TypeId) {ps rs : Array TypeId} {vd : Bool} (h : P.underlying t = some (.func ps rs vd)) (f : Fn) (a b : Array Value) : (Op.equal t (.func f a b) .nilFunc).run P W = .ok false W := equalIn_func_nil W 9999 t h f a b
theorem eql_func (f : Fn) (a b : Array Value) (W : World) : Sem.run Try.prog (binOp .eql 51 (.func f a b) .nilFunc) W = .ok (.bool false) W := by
  have := equal_func_nil W 51 Try.underlying51 f a b
  simp [binOp, go_sem, this]
theorem own_slice {W : World} {b n sz : Nat} {e : TypeId} {v : Value} {xs : List Value} (h : W.ownsRow b e sz v n xs) : ∃ A c, v = .slice A n c := by
  rcases h.2 with ⟨rfl, rfl⟩ | ⟨g, cap, cur, rfl, _⟩
  · exact ⟨_, _, rfl⟩
  · exact ⟨_, _, rfl⟩
set_option maxRecDepth 100000 in
set_option maxHeartbeats 2000000 in
/-- The loop of 'from': what it collects, over any value that goes through xs. -/
theorem from_in (F : Fence) (n : Nat) (h21 : F.fn 21) (h23 : F.fn 23) (h26 : F.fn 26) (hro : F.round = none) (hn : 3 ≤ n) (t : Value) (key : ByteArray) (most : Int) (w : World) (xs : List Pr) (hlx : xs.length ≤ 1000)
    (hF : CallsIn F (n - 1) Try.prog 23 #[t, .string key] ((w.alloc (.cells #[.int .i64 most] 3)).alloc (.cells #[.slice none 0 0] 25)) fun e W' => ∃ q A c, e = .returned (.func (.func 26) #[] #[.pointer (some ⟨q, 0, none⟩)]) ∧ q < W'.heap.size ∧ w.heap.size + 2 ≤ W'.heap.size ∧
      W'.cell? ⟨q, 0, none⟩ = some (.slice A xs.length c) ∧ xs.length ≤ c ∧ Kd.C k57 w A xs.length (xs.map mk57) ∧ Boxed W' w.heap.size 3 (.int .i64 most) ∧ Boxed W' (w.heap.size + 1) 25 (.slice none 0 0) ∧ Below w.heap.size w W') :
    CallsIn F n Try.prog 21 #[t, .string key, .int .i64 most] w fun e W' => ∃ v, e = .returned v ∧ W'.ownsRow w.heap.size 31 2 v (xs.take most.toNat).length (fl (xs.take most.toNat)) ∧ Below w.heap.size w W' := by
  have h1 : 1 ≤ n := by omega
  obtain ⟨i0, hi, hz0, hz1, hz2⟩ := info_parts info31
  refine callsIn_of_wp_marks Try.func21 rfl h21 ?_ hro
  simp only [Try.ntmps21, List.size_toArray, List.length_cons, List.length_nil, Nat.reduceAdd, Nat.reduceSub, Array.replicate_succ, Array.replicate_zero, List.push_toArray, List.append_toArray, List.nil_append, List.cons_append]
  have hnil := eql_func (.func 26) #[]
  gi_wp2_with (gi_at_call 23; refine hF.mono ?_; rintro e W' ⟨q, A, c, rfl, hq, hS, hcell, hcc, hC, b0, b1, hB0⟩)
  refine wpIn_rangeFunc_ownG hro h1 (gf := 26) (lb := #[.pointer (some ⟨q, 0, none⟩)]) rfl h26 (enters_of Try.func26 (by kernel_rfl) rfl)
    (seq_stops F (n - 1) h26 hro (by omega) q xs w.heap.size w W' rfl hB0 hq A c hlx hcc hcell hC) belowK_t (belowK_b (by omega)) (Below.refl _ _) (fun _ => rfl)
    (fun pre W => ((pre.length ≤ most.toNat ∧ Boxed W w.heap.size 3 (.int .i64 most)) ∧ (∃ v, Boxed W (w.heap.size + 1) 25 v ∧ W.ownsRow w.heap.size 31 2 v pre.length (fl pre) ∧ True)) ∧ Below w.heap.size w W)
    (fun c pre W => (c = .exit 0 ∧ ∃ ini last, pre = ini ++ [last] ∧ most ≤ ini.length ∧ ini.length ≤ most.toNat ∧ (∃ v, Boxed W (w.heap.size + 1) 25 v ∧ W.ownsRow w.heap.size 31 2 v ini.length (fl ini) ∧ True)) ∧ Below w.heap.size w W)
    ?o1 ?o2 ⟨⟨⟨by simp, b0⟩, ⟨_, b1, World.ownsRow_nil _ _ _ _, trivial⟩⟩, hB0⟩
    (fun x => { tmps := #[t, .string key, .int .i64 most, undef, undef, .pointer (some ⟨w.heap.size, 0, none⟩), .slice none 0 0, .pointer (some ⟨w.heap.size + 1, 0, none⟩), .func (.func 26) #[] #[.pointer (some ⟨q, 0, none⟩)], .string x.1, .string x.2, t, .string key, .func (.func 26) #[] #[.pointer (some ⟨q, 0, none⟩)], .func (.func 26) #[] #[.pointer (some ⟨q, 0, none⟩)], .bool false, undef, .func (.func 26) #[] #[.pointer (some ⟨q, 0, none⟩)], .string x.1, .string x.2, undef, undef, undef, undef, undef, undef, undef, undef, undef, undef, undef], defers := [] }) ?assign ?body ?done ?stop
  case o1 =>
    exact OwnFrom.and (Own.from (fun s A B row hs hg hr => ⟨⟨hs.1.1, hs.1.2.kept hg (fun e' => by obtain ⟨o, ho, hc⟩ := hr _ e'.symm; rw [show A.heap[_]? = _ from hs.1.2] at ho; cases ho; cases hc)⟩, holdsRow_own w.heap.size (w.heap.size + 1) 25 31 2 (fun pre : List Pr => pre.length) (fun pre => fl pre) (fun _ _ => True) s A B row hs.2 hg hr⟩) _) (ownFrom_below (Nat.le_refl _) (by omega))
  case o2 =>
    intro c
    refine OwnFrom.and (Own.from (fun s A B row hs hg hr => ?_) _) (ownFrom_below (Nat.le_refl _) (by omega))
    obtain ⟨hc, ini, last, e1, e2, e3, e4⟩ := hs
    exact ⟨hc, ini, last, e1, e2, e3, holdsRow_own w.heap.size (w.heap.size + 1) 25 31 2 (fun pre : List Pr => pre.length) (fun pre => fl pre) (fun _ _ => True) ini A B row e4 hg hr⟩
  case assign =>
    intro l x W K hK
    gi_wp2
    exact hK
  case body =>
    rintro l pre x W ⟨⟨⟨hpm, hb0⟩, v, hv, hrow, -⟩, hB⟩ hlt
    have hc := hv.cell
    have hc0 := hb0.cell
    obtain ⟨Av, cv, rfl⟩ := own_slice hrow
    have HB0 := Lib.hid hb0
    have HV := Lib.hid hv
    have HR := Lib.hid hrow
    have HB := Lib.hid hB
    clear hb0 hv hrow hB hB0 hcell hC hcc b0 b1 hF
    by_cases hge : most ≤ (pre.length : Int)
    · gi_wp2
      exact ⟨KeepsFrom.refl _ _, ⟨rfl, pre, x, rfl, hge, hpm, ⟨_, HV.out, HR.out, trivial⟩⟩, HB.out⟩
    · have hlt2 : (pre.length : Int) < most := by omega
      gi_wp2_with (gi_at_builtin; refine wpListIn_append_own _ rfl _ _ 25 rfl w.heap.size 31 i0 (.agg #[(.string ⟨#[]⟩), (.string ⟨#[]⟩)]) 2 32 Try.underlying25 hi hz0 hz1 hz2 rfl (by decide) _ _ _ rfl (HR.out.alloc _) ⟨W.heap.size, 0, none⟩ 1 1 [.string x.1, .string x.2] rfl rfl (cell_two_new _ _ _ _) (by simp [Value.oneCell']) (by unfold maxLen; omega) (by omega) (by have := HB.out.size; simp; omega) ?_; intro v' w1 hown' hgrow _; obtain ⟨g', cap', rfl⟩ := ownsRow_succ hown'; obtain ⟨hv1, hv2, hr2, hk2, hb2⟩ := HV.out.appended (by decide) HR.out HB.out.size (by omega) hown' hgrow; have hc1 := hv1.cell; have hf1 := hv1.frozen)
      refine ⟨hk2.from _, hb2, ⟨⟨?_, ?_⟩, ⟨_, hv2, ?_⟩⟩, HB.out.trans hb2⟩
      · rw [List.length_append, List.length_singleton]; omega
      · exact ((HB0.out.alloc _).kept hgrow (HB0.out.not_row (by decide) HR.out)).kept (grownBy_setCell' _ _ _) (by simp)
      · rw [fl_snoc, List.length_append, List.length_singleton]
        exact hr2
  case done =>
    rintro D ys W hD rfl ⟨⟨⟨hpm, hb0⟩, v, hv, hrow, -⟩, hB⟩ hK
    have hc := hv.cell
    gi_wp2
    refine ⟨by simp, .inl ⟨_, _, rfl, run_takeDeferred hK, ?_⟩⟩
    refine ⟨_, results_tmp rfl _ _ _, v, rfl, ?_, hB.trans (belowK_b (w := w) (Nat.le_refl _) W D _ _ (by omega) hK rfl rfl)⟩
    rw [List.take_of_length_le hpm]
    exact ownsRow_putObj hrow _ hK rfl
  case stop =>
    rintro D c pre W hD hpre ⟨⟨rfl, ini, last, rfl, e2, e3, v, hv, hrow, -⟩, hB⟩ hK
    have hc := hv.cell
    gi_wp2
    refine ⟨by simp, .inl ⟨_, _, rfl, run_takeDeferred hK, ?_⟩⟩
    refine ⟨_, results_tmp rfl _ _ _, v, rfl, ?_, hB.trans (belowK_b (w := w) (Nat.le_refl _) W D _ _ (by omega) hK rfl rfl)⟩
    rw [← ge_take (List.IsPrefix.trans (List.prefix_append _ _) hpre) e2 e3]
    exact ownsRow_putObj hrow _ hK rfl
theorem from21_of (t : Value) (key : ByteArray) (most : Int) (w : World) (xs : List Pr) (hlx : xs.length ≤ 1000)
    (hF : ∀ W, Below w.heap.size w W → Calls Try.prog 23 #[t, .string key] W fun e W' => ∃ q A c, e = .returned (.func (.func 26) #[] #[.pointer (some ⟨q, 0, none⟩)]) ∧ IsSeq W' q xs ∧ W.heap.size ≤ q ∧ Below W.heap.size W W' ∧
      W'.cell? ⟨q, 0, none⟩ = some (.slice A xs.length c) ∧ xs.length ≤ c ∧ Kd.C k57 w A xs.length (xs.map mk57)) :
    Calls Try.prog 21 #[t, .string key, .int .i64 most] w fun e w' => ∃ A c, e = .returned (.slice A (xs.take most.toNat).length c) ∧ Hid (Kd.R k31 31 w' w.heap.size (fun _ => True) (.slice A (xs.take most.toNat).length c) ((xs.take most.toNat).map mk31)) ∧ Below w.heap.size w w' := by
  have hb2 : Below w.heap.size w ((w.alloc (.cells #[.int .i64 most] 3)).alloc (.cells #[.slice none 0 0] 25)) := ((Below.refl _ w).alloc (Nat.le_refl _) _).alloc (by simp) _
  have h := from_in Fence.wide 3 trivial trivial trivial rfl (by omega) t key most w xs hlx ((callsIn_wide (n := 3 - 1)).2 ((hF _ hb2).mono fun e W' => ?_))
  · refine ((callsIn_wide (n := 3)).1 h).mono ?_
    rintro e w' ⟨v, rfl, hrow, hb⟩
    obtain ⟨A, c, rfl⟩ := own_slice hrow
    exact ⟨A, c, rfl, R_of_own hrow, hb⟩
  · rintro ⟨q, A, c, rfl, hS, hq, hb, hcell, hc, hC⟩
    have hsz : ((w.alloc (.cells #[.int .i64 most] 3)).alloc (.cells #[.slice none 0 0] 25)).heap.size = w.heap.size + 2 := by simp
    refine ⟨q, A, c, rfl, hS.lt, by have := hb.size; omega, hcell, hc, hC, ?_, ?_, hb2.trans (hb.mono (by omega))⟩
    · exact blk_below ((Boxed.new w 3 _).alloc _) hb
    · have := Boxed.new (w.alloc (.cells #[.int .i64 most] 3)) 25 (.slice none 0 0)
      rw [World.size_alloc] at this
      exact blk_below this hb
/-- 'from', of a table. -/
theorem from21_c (l : List Pr) (hr : Rising l) (hl : l.length ≤ 1000) (key : ByteArray) (most : Int) (w : World) (B g : Nat) (hT : IsT w B g l) :
    Calls Try.prog 21 #[.pointer (some ⟨g, 0, none⟩), .string key, .int .i64 most] w fun e w' => ∃ A c, e = .returned (.slice A ((l.drop (cnt l key)).take most.toNat).length c) ∧ Hid (Kd.R k31 31 w' w.heap.size (fun _ => True) (.slice A ((l.drop (cnt l key)).take most.toNat).length c) (((l.drop (cnt l key)).take most.toNat).map mk31)) ∧ Below w.heap.size w w' :=
  from21_of _ key most w _ (by rw [List.length_drop]; omega) (fun W hW => from_c l hr hl key w W hW B g hT)
/-- 'from', of a table that is nil. -/
theorem from21_nil (key : ByteArray) (most : Int) (w : World) :
    Calls Try.prog 21 #[.pointer none, .string key, .int .i64 most] w fun e w' => ∃ A c, e = .returned (.slice A 0 c) ∧ Below w.heap.size w w' := by
  refine (from21_of (.pointer none) key most w [] (by simp) (fun W hW => ?_)).mono ?_
  · refine (from_nil key W).mono ?_
    rintro e W' ⟨q, rfl, hS, hq, hb, hcell⟩
    exact ⟨q, none, 0, rfl, hS, hq, hb, hcell, Nat.le_refl _, Kd.C_nil _ _⟩
  · rintro e w' ⟨A, c, rfl, -, hb⟩
    exact ⟨A, c, by simp, hb⟩
end Go.Proofs.Ytcjnmipmdnlkmaa.TabF
