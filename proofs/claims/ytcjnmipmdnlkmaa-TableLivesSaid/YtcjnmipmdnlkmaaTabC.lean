/- Contracts of the methods of a table (layer 6): what a call does to the table at a block, on rising rows of at most 1000 pairs. -/
import Derived.Test.YtcjnmipmdnlkmaaTabE
import Derived.Laws.OwnMore
import Derived.Laws.MakeOwn
namespace Go.Proofs.Ytcjnmipmdnlkmaa.TabC
open Go.RowKit Go.Proofs.YtcjnmipmdnlkmaaW.PrintWords Go.Proofs.YtcjnmipmdnlkmaaW.PrintLast Go.Proofs.YtcjnmipmdnlkmaaW.PrintMore Go.Proofs.Ytcjnmipmdnlkmaa.TabP Go.Proofs.Ytcjnmipmdnlkmaa.TabE Go.Proofs.Ytcjnmipmdnlkmaa.Q
theorem len57 (l : List Pr) : (l.map mk57).length = l.length := List.length_map ..
theorem info57 : (Try.prog.info? 57).map (fun i => (i.zero, i.size, i.bytes)) = some (some (.agg #[(.string ⟨#[]⟩), (.string ⟨#[]⟩)]), 2, 32) := by kernel_rfl
/-- A table at block g whose pairs are m; what it leads to lies at blocks from B on. -/
def IsM (W : World) (B g : Nat) (m : List S57) : Prop := ∃ A c, W.heap[g]? = some (.cells #[.slice A m.length c] 41 (0, 0)) ∧ B ≤ g ∧ Kd.R k57 57 W B (fun _ => True) (.slice A m.length c) m
theorem IsM.below {W W1 : World} {B g : Nat} {m : List S57} (h : IsM W B g m) (hb : Below W.heap.size W W1) : IsM W1 B g m := by
  obtain ⟨A, c, h1, h2, h3⟩ := h
  exact ⟨A, c, blk_below h1 hb, h2, Kd.R_below h3 hb⟩
theorem IsM.drewN {W : World} {B g : Nat} {m : List S57} (h : IsM W B g m) (j : Nat) : IsM (W.drewN j) B g m := h
theorem types57 {q : Nat} (hq : q ∈ 57 :: k57.E) : q = 57 := by
  simpa [k57, Kd.iso, Kd.pair, Kd.string, Kd.scalar] using hq
/-- Another table, or a row of another element type, is written: this one stays. -/
theorem IsM.grown {W W1 : World} {B g : Nat} {m : List S57} (h : IsM W B g m) {k t : Nat} {cells : Array Value} (hk : W.heap[k]? = some (.cells cells t (0, 0))) (ht : 57 ≠ t) (hg : W.grownBy W1 (some k)) (hne : g ≠ k) : IsM W1 B g m := by
  obtain ⟨A, c, h1, h2, h3⟩ := h
  refine ⟨A, c, blk_grown h1 hg (by simpa using hne), h2, Kd.R_mono (Kd.R_grown (Kd.R_types h3 hk (fun q hq => ?_)) hg (fun k' hk' => by simpa using hk'.2)) (fun _ h => h.1)⟩
  have := types57 hq
  omega
theorem IsM.lt {W : World} {B g : Nat} {m : List S57} (h : IsM W B g m) : g < W.heap.size := by
  obtain ⟨A, c, h1, h2, h3⟩ := h
  exact blk_lt h1
/-- What a call of seek came to: a place in the row, and whether the key is there. -/
def Seeks (m : List S57) (key : ByteArray) (i : Nat) (ok : Bool) : Prop := i ≤ m.length ∧ (ok = true → i < m.length) ∧ ∃ k, table_seek_string.f k m key = some ((i : Int), ok)
theorem Seeks.calls {m : List S57} {key : ByteArray} {i : Nat} {ok : Bool} (h : Seeks m key i ok) (w : World) (A : Option Addr) (c : Nat) (hC : Kd.C k57 w A m.length m) (hc : m.length ≤ c) :
    Calls Try.prog 25 #[.slice A m.length c, .string key] w fun e w' => e = .returned (.tuple #[.int .i64 (i : Int), .bool ok]) ∧ Drawn0 w w' := by
  obtain ⟨_, _, k, hk⟩ := h
  exact table_seek_string.calls k A c m key i ok w hC hc hk
theorem seeks (l : List Pr) (hr : Rising l) (hl : l.length ≤ 1000) (key : ByteArray) : Seeks (l.map mk57) key (cnt l key) (has l key) := by
  refine ⟨by rw [len57]; exact cnt_le l key, fun h => ?_, Ev.rounds (seek_ev l hr (by omega) key)⟩
  rw [len57]
  rw [TabP.has_at] at h
  rcases Nat.lt_or_ge (cnt l key) l.length with h' | h'
  · exact h'
  · rw [List.getElem?_eq_none h'] at h; cases h
theorem rd_get (m : List S57) (i : Nat) (x : S57) (h : m[i]? = some x) : rd_T57 m (i : Int) = x := by
  unfold rd_T57
  simp [List.getD_eq_getElem?_getD, h]
/-- Get. -/
theorem get_raw (m : List S57) (key : ByteArray) (i : Nat) (ok : Bool) (hs : Seeks m key i ok) (w : World) (B g : Nat) (hT : IsM w B g m) :
    Calls Try.prog 12 #[.pointer (some ⟨g, 0, none⟩), .string key] w fun e w' => e = .returned (.tuple #[.string (if ok = true then (rd_T57 m i).f1 else ⟨#[]⟩), .bool ok]) ∧ Drawn0 w w' := by
  obtain ⟨A, c, h1, h2, h3⟩ := hT
  obtain ⟨-, hc, hC⟩ := Kd.R_reads' h3
  have hcell : w.cell? ⟨g, 0, none⟩ = some (.slice A m.length c) := (blk_cell h1 0).trans rfl
  have HS := Lib.hid (hs.calls w A c hC hc)
  cases ok
  · clear hs hC h1 h3
    go_enter Try.func12, Try.ntmps12
    go_wp2_with (go_at_call 25; refine (HS.out).mono ?_; rintro e w' ⟨rfl, ⟨md, rfl⟩⟩)
    go_ret2
    exact ⟨rfl, ⟨_, rfl⟩⟩
  · have hlt := hs.2.1 rfl
    obtain ⟨ad, rfl, hk1, hk2⟩ := at_T57 hC i (by omega) (by omega)
    clear hs hC h1 h3
    generalize rd_T57 m i = x at hk1 hk2 ⊢
    simp only [Int.toNat_natCast] at hk1 hk2
    go_enter Try.func12, Try.ntmps12
    go_wp2_with (go_at_call 25; refine (HS.out).mono ?_; rintro e w' ⟨rfl, ⟨md, rfl⟩⟩)
    go_ret2
    exact ⟨rfl, ⟨_, rfl⟩⟩
/-- Len. -/
theorem len_raw (m : List S57) (w : World) (B g : Nat) (hT : IsM w B g m) :
    Calls Try.prog 13 #[.pointer (some ⟨g, 0, none⟩)] w fun e w' => e = .returned (.int .i64 m.length) ∧ Drawn0 w w' := by
  obtain ⟨A, c, h1, h2, h3⟩ := hT
  have hcell : w.cell? ⟨g, 0, none⟩ = some (.slice A m.length c) := (blk_cell h1 0).trans rfl
  clear h1 h3
  go_enter Try.func13, Try.ntmps13
  go_wp2
  go_ret
  exact ⟨rfl, ⟨0, rfl⟩⟩
/-- Key. -/
theorem key_in (m : List S57) (i : Int) (h0 : 0 ≤ i) (hi : i < m.length) (w : World) (B g : Nat) (hT : IsM w B g m) :
    Calls Try.prog 11 #[.pointer (some ⟨g, 0, none⟩), .int .i64 i] w fun e w' => e = .returned (.tuple #[.string (rd_T57 m i).f0, .bool true]) ∧ Drawn0 w w' := by
  obtain ⟨A, c, h1, h2, h3⟩ := hT
  obtain ⟨-, hc, hC⟩ := Kd.R_reads' h3
  have hcell : w.cell? ⟨g, 0, none⟩ = some (.slice A m.length c) := (blk_cell h1 0).trans rfl
  have hfz : w.frozen? ⟨g, 0, none⟩ = false := blk_frozen h1 0
  obtain ⟨ad, rfl, hk1, hk2⟩ := at_T57 hC i h0 hi
  clear hC h1 h3
  generalize rd_T57 m i = x at hk1 hk2 ⊢
  have d1 : decide (i < 0) = false := by simp; omega
  have d2 : decide ((m.length : Int) ≤ i) = false := by simp; omega
  go_enter Try.func11, Try.ntmps11
  go_wp2
  go_ret2
  exact ⟨rfl, ⟨0, rfl⟩⟩
theorem key_out (m : List S57) (i : Int) (hi : i < 0 ∨ m.length ≤ i) (w : World) (B g : Nat) (hT : IsM w B g m) :
    Calls Try.prog 11 #[.pointer (some ⟨g, 0, none⟩), .int .i64 i] w fun e w' => e = .returned (.tuple #[.string ⟨#[]⟩, .bool false]) ∧ Drawn0 w w' := by
  obtain ⟨A, c, h1, h2, h3⟩ := hT
  have hcell : w.cell? ⟨g, 0, none⟩ = some (.slice A m.length c) := (blk_cell h1 0).trans rfl
  clear h1 h3
  by_cases h0 : i < 0
  · have d1 : decide (i < 0) = true := by simpa using h0
    go_enter Try.func11, Try.ntmps11
    go_wp2
    go_ret2
    exact ⟨rfl, ⟨0, rfl⟩⟩
  · have d1 : decide (i < 0) = false := by simpa using h0
    have d2 : decide ((m.length : Int) ≤ i) = true := by simp; omega
    go_enter Try.func11, Try.ntmps11
    go_wp2
    go_ret2
    exact ⟨rfl, ⟨0, rfl⟩⟩
/-- New. -/
theorem new_c (w : World) (B : Nat) (hB : B ≤ w.heap.size) : Calls Try.prog 16 #[] w fun e w' => ∃ g, e = .returned (.pointer (some ⟨g, 0, none⟩)) ∧ IsM w' B g [] ∧ w.heap.size ≤ g ∧ Below w.heap.size w w' := by
  have hu41 := Try.underlying41
  go_enter Try.func16, Try.ntmps16
  go_wp2
  go_ret
  refine ⟨_, rfl, ⟨none, 0, ?_, hB, Kd.R_nil _ _ _ _ _⟩, Nat.le_refl _, ?_⟩
  · exact blk_new w _
  · exact (Below.refl _ _).alloc (Nat.le_refl _) _
theorem k57M {w : World} {W : World} {base : Nat} {ok : Nat → Prop} {x : S57} {cs : List Value} (h : k57.K w x cs) : k57.M W base ok x cs := by
  obtain rfl := k57_open h
  exact k57_mkM _ _ _ x
theorem slice_of {W : World} {b : Nat} {ok : Nat → Prop} {v : Value} {m : List S57} (h : Kd.R k57 57 W b ok v m) : ∃ A n c, v = .slice A n c := by
  obtain ⟨A, c, h⟩ := Kd.R_slice h
  exact ⟨A, _, c, h⟩
theorem grown_of_set {w W : World} {g : Nat} (hb : Below w.heap.size w W) (v : Value) : w.grownBy (W.setCell ⟨g, 0, none⟩ v) (some g) :=
  ⟨hb.os, hb.tape, hb.output, by simpa [World.setCell] using hb.size, fun i hi hne => (Below.heap_setCell W ⟨g, 0, none⟩ v i (fun e => hne (by rw [e]))).trans (hb.block i hi)⟩
theorem put_done {w W : World} {B g : Nat} {u v : Value} {m : List S57} (h1 : w.heap[g]? = some (.cells #[u] 41 (0, 0))) (h2 : B ≤ g) (hB : B ≤ w.heap.size) (hb : Below w.heap.size w W) (hO : Kd.R k57 57 W w.heap.size (fun _ => True) v m) :
    IsM (W.setCell ⟨g, 0, none⟩ v) B g m ∧ w.grownBy (W.setCell ⟨g, 0, none⟩ v) (some g) := by
  refine ⟨?_, grown_of_set hb v⟩
  obtain ⟨A, c, rfl⟩ := Kd.R_slice hO
  have hblk := blk_below h1 hb
  refine ⟨A, c, by simpa using blk_set hblk 0 _, h2, ?_⟩
  exact Kd.R_lower (Kd.R_set hO hblk (fun q hq => by have := types57 hq; omega) 0 _) hB
/-- Put. -/
theorem put_raw (m : List S57) (hl : m.length ≤ 1000) (key v : ByteArray) (i : Nat) (ok : Bool) (hs : Seeks m key i ok) (w : World) (B g : Nat) (hB : B ≤ w.heap.size) (hT : IsM w B g m) :
    Calls Try.prog 14 #[.pointer (some ⟨g, 0, none⟩), .string key, .string v] w fun e w' => e = .returned (.tuple #[]) ∧
      IsM w' B g (m.take i ++ (⟨key, v⟩ : S57) :: m.drop (if ok = true then i + 1 else i)) ∧ w.grownBy w' (some g) := by
  obtain ⟨A, c, h1, h2, h3⟩ := hT
  obtain ⟨-, hc, hC⟩ := Kd.R_reads' h3
  have hcell : w.cell? ⟨g, 0, none⟩ = some (.slice A m.length c) := (blk_cell h1 0).trans rfl
  have HS := Lib.hid (hs.calls w A c hC hc)
  have hi := hs.1
  have hok := hs.2.1
  obtain ⟨i0, hi0, hz0, hz1, hz2⟩ := info_parts info57
  have hcut1 := cut_from (P := Try.prog) 39 57 .i64 Try.underlying39 hi0 2 hz1 A m.length c (i : Int) (by omega) (by omega)
  have hcut2 := cut_to (P := Try.prog) 39 57 .i64 Try.underlying39 hi0 A m.length c (i : Int) (by omega) (by omega) hc
  simp only [Int.toNat_natCast] at hcut1 hcut2
  have hCt := Kd.C_take hC hi
  have hlt : (m.take i).length = i := by rw [List.length_take]; omega
  rw [hlt] at hCt
  have hCd := Kd.C_drop hC hi hc
  rw [List.length_drop] at hCd
  have hg : g < w.heap.size := blk_lt h1
  have H1 := Lib.hid h1
  have HCt := Lib.hid hCt
  have HCd := Lib.hid hCd
  have Hlt := Lib.hid hlt
  obtain ⟨A1, hA1⟩ : ∃ A1, A1 = (if c = i then A else A.map (·.add (i * 2))) := ⟨_, rfl⟩
  have hcut1' := hcut1
  rw [← hA1] at hcut1'
  have hA1' : (if c = i then A else A.map (·.add (i * k57.sz))) = A1 := hA1.symm
  rw [hA1'] at hCd
  have HC1 := Lib.hid hCd
  clear hcut1 hA1 hA1' HCd hCd hCt hlt h1 h3 hC hs
  cases ok
  · clear hok
    go_enter Try.func14, Try.ntmps14
    go_wp2_with (first
      | (go_at_call 25; refine (HS.out).mono ?_; rintro e w' ⟨rfl, ⟨md, rfl⟩⟩)
      | (at_make; refine wpList_make_own _ rfl (.const (.int .i64 0)) (.tmp 35) 39 rfl w.heap.size 57 i0 _ 2 Try.underlying39 hi0 hz0 hz1 .i64 .i64 _ (m.length + 1) rfl rfl (by omega) ?b2 ?b3 (Nat.le_refl _) ?_; (case b2 => rw [hz2]; omega); (case b3 => unfold maxLen; omega); intro w1 hown hgr; have Hb1 : Hid (Below w.heap.size w w1) := (pw_below_drewN (Below.refl _ _) md).grown hgr (Nat.le_refl _) (by simp); have HO1 : Hid (Kd.R k57 57 w1 w.heap.size (fun _ => True) (.slice (some ⟨w.heap.size, 0, none⟩) 0 (m.length + 1)) []) := ⟨fun _ _ => trivial, [], hown, rfl, fun j p hj => by simp at hj⟩; have hcell1 : w1.cell? ⟨g, 0, none⟩ = some (.slice A m.length c) := (blk_cell (blk_below H1.out Hb1.out) 0).trans rfl; clear hown hgr)
      | (at_builtin; refine Kd.R_append_rows k57 (w0 := w) w.heap.size rfl (.tmp 37) (.tmp 43) 39 57 (.agg #[.string ⟨#[]⟩, .string ⟨#[]⟩]) 32 rfl Try.underlying39 info57 rfl (by decide) (by omega) _ [] (m.take i) A i c (fun _ => True) (fun _ => False) rfl rfl HO1.out (Kd.C_below HCt.out Hb1.out) ?aM (fun _ h => h.elim) (fun _ _ => trivial) Hb1.out (below_size Hb1.out) ?aL ?_; (case aM => intro x cs hx; exact k57M hx); (case aL => simp only [List.length_nil]; omega); intro v2 w2 HO2' Hb2' hgr2 _; have HO2 := Lib.hid HO2'; have Hb2 := Lib.hid Hb2'; clear HO2' Hb2' hgr2)
      | (at_builtin; refine Kd.R_append k57 (w0 := w) w.heap.size rfl (.tmp 45) (.tmp 49) 39 57 (.agg #[.string ⟨#[]⟩, .string ⟨#[]⟩]) 32 rfl Try.underlying39 info57 rfl (by decide) (by omega) v2 ([] ++ m.take i) (⟨key, v⟩ : S57) [.string key, .string v] (fun _ => True) (fun _ => False) rfl rfl (k57_mkM _ _ _ (⟨key, v⟩ : S57)) (fun _ h => h.elim) (fun _ _ => trivial) HO2.out Hb2.out (below_size Hb2.out) ?aL ?_; (case aL => simp only [List.length_append, List.length_nil]; rw [Hlt.out]; omega); intro v3 w3 HO3' Hb3' hgr3 _; have HO3 := Lib.hid HO3'; have Hb3 := Lib.hid Hb3'; have hcell3 : w3.cell? ⟨g, 0, none⟩ = some (.slice A m.length c) := (blk_cell (blk_below H1.out Hb3.out) 0).trans rfl; clear HO3' Hb3' hgr3)
      | (at_builtin; refine Kd.R_append_rows k57 (w0 := w) w.heap.size rfl (.tmp 52) (.tmp 53) 39 57 (.agg #[.string ⟨#[]⟩, .string ⟨#[]⟩]) 32 rfl Try.underlying39 info57 rfl (by decide) (by omega) v3 (([] ++ m.take i) ++ [(⟨key, v⟩ : S57)]) (m.drop i) A1 (m.length - i) (c - i) (fun _ => True) (fun _ => False) rfl rfl HO3.out (Kd.C_below HC1.out Hb3.out) ?aM (fun _ h => h.elim) (fun _ _ => trivial) Hb3.out (below_size Hb3.out) ?aL ?_; (case aM => intro x cs hx; exact k57M hx); (case aL => simp only [List.length_append, List.length_nil, List.length_cons]; rw [Hlt.out]; omega); intro v4 w4 HO4' Hb4' hgr4 _; obtain ⟨A4, n4, c4, hv4⟩ := slice_of HO4'; subst hv4; have HO4 := Lib.hid HO4'; have Hb4 := Lib.hid Hb4'; have hcell4 : w4.cell? ⟨g, 0, none⟩ = some (.slice A m.length c) := (blk_cell (blk_below H1.out Hb4.out) 0).trans rfl; have hfz4 : w4.frozen? ⟨g, 0, none⟩ = false := blk_frozen (blk_below H1.out Hb4.out) 0; clear HO4' Hb4' hgr4))
    go_end0
    exact ⟨rfl, put_done H1.out h2 hB Hb4.out (by simpa using HO4.out)⟩
  · have hlt1 := hok rfl
    clear hok
    have hcutA := cut_from (P := Try.prog) 39 57 .i64 Try.underlying39 hi0 2 hz1 A1 (m.length - i) (c - i) (1 : Int) (by omega) (by omega)
    rw [show (1 : Int).toNat = 1 from rfl] at hcutA
    have hC2 := HC1.out
    rw [← List.length_drop] at hC2
    have hC3 := Kd.C_drop hC2 (m := 1) (by rw [List.length_drop]; omega) (c := c - i) (by rw [List.length_drop]; omega)
    rw [List.drop_drop, List.length_drop] at hC3
    obtain ⟨A2, hA2⟩ : ∃ A2, A2 = (if c - i = 1 then A1 else A1.map (·.add (1 * 2))) := ⟨_, rfl⟩
    have hA2' : (if c - i = 1 then A1 else A1.map (·.add (1 * k57.sz))) = A2 := hA2.symm
    rw [hA2'] at hC3
    have hcutB := hcutA
    rw [← hA2] at hcutB
    have HC2 := Lib.hid hC3
    clear hcutA hA2 hA2' hC3 hC2
    go_enter Try.func14, Try.ntmps14
    go_wp2_with (first
      | (go_at_call 25; refine (HS.out).mono ?_; rintro e w' ⟨rfl, ⟨md, rfl⟩⟩)
      | (at_make; refine wpList_make_own _ rfl (.const (.int .i64 0)) (.tmp 35) 39 rfl w.heap.size 57 i0 _ 2 Try.underlying39 hi0 hz0 hz1 .i64 .i64 _ (m.length + 1) rfl rfl (by omega) ?b2 ?b3 (Nat.le_refl _) ?_; (case b2 => rw [hz2]; omega); (case b3 => unfold maxLen; omega); intro w1 hown hgr; have Hb1 : Hid (Below w.heap.size w w1) := (pw_below_drewN (Below.refl _ _) md).grown hgr (Nat.le_refl _) (by simp); have HO1 : Hid (Kd.R k57 57 w1 w.heap.size (fun _ => True) (.slice (some ⟨w.heap.size, 0, none⟩) 0 (m.length + 1)) []) := ⟨fun _ _ => trivial, [], hown, rfl, fun j p hj => by simp at hj⟩; have hcell1 : w1.cell? ⟨g, 0, none⟩ = some (.slice A m.length c) := (blk_cell (blk_below H1.out Hb1.out) 0).trans rfl; clear hown hgr)
      | (at_builtin; refine Kd.R_append_rows k57 (w0 := w) w.heap.size rfl (.tmp 37) (.tmp 43) 39 57 (.agg #[.string ⟨#[]⟩, .string ⟨#[]⟩]) 32 rfl Try.underlying39 info57 rfl (by decide) (by omega) _ [] (m.take i) A i c (fun _ => True) (fun _ => False) rfl rfl HO1.out (Kd.C_below HCt.out Hb1.out) ?aM (fun _ h => h.elim) (fun _ _ => trivial) Hb1.out (below_size Hb1.out) ?aL ?_; (case aM => intro x cs hx; exact k57M hx); (case aL => simp only [List.length_nil]; omega); intro v2 w2 HO2' Hb2' hgr2 _; have HO2 := Lib.hid HO2'; have Hb2 := Lib.hid Hb2'; clear HO2' Hb2' hgr2)
      | (at_builtin; refine Kd.R_append k57 (w0 := w) w.heap.size rfl (.tmp 45) (.tmp 49) 39 57 (.agg #[.string ⟨#[]⟩, .string ⟨#[]⟩]) 32 rfl Try.underlying39 info57 rfl (by decide) (by omega) v2 ([] ++ m.take i) (⟨key, v⟩ : S57) [.string key, .string v] (fun _ => True) (fun _ => False) rfl rfl (k57_mkM _ _ _ (⟨key, v⟩ : S57)) (fun _ h => h.elim) (fun _ _ => trivial) HO2.out Hb2.out (below_size Hb2.out) ?aL ?_; (case aL => simp only [List.length_append, List.length_nil]; rw [Hlt.out]; omega); intro v3 w3 HO3' Hb3' hgr3 _; have HO3 := Lib.hid HO3'; have Hb3 := Lib.hid Hb3'; have hcell3 : w3.cell? ⟨g, 0, none⟩ = some (.slice A m.length c) := (blk_cell (blk_below H1.out Hb3.out) 0).trans rfl; clear HO3' Hb3' hgr3)
      | (at_builtin; refine Kd.R_append_rows k57 (w0 := w) w.heap.size rfl (.tmp 52) (.tmp 53) 39 57 (.agg #[.string ⟨#[]⟩, .string ⟨#[]⟩]) 32 rfl Try.underlying39 info57 rfl (by decide) (by omega) v3 (([] ++ m.take i) ++ [(⟨key, v⟩ : S57)]) (m.drop (i + 1)) A2 (m.length - (i + 1)) (c - i - 1) (fun _ => True) (fun _ => False) rfl rfl HO3.out (Kd.C_below HC2.out Hb3.out) ?aM (fun _ h => h.elim) (fun _ _ => trivial) Hb3.out (below_size Hb3.out) ?aL ?_; (case aM => intro x cs hx; exact k57M hx); (case aL => simp only [List.length_append, List.length_nil, List.length_cons]; rw [Hlt.out]; omega); intro v4 w4 HO4' Hb4' hgr4 _; obtain ⟨A4, n4, c4, hv4⟩ := slice_of HO4'; subst hv4; have HO4 := Lib.hid HO4'; have Hb4 := Lib.hid Hb4'; have hcell4 : w4.cell? ⟨g, 0, none⟩ = some (.slice A m.length c) := (blk_cell (blk_below H1.out Hb4.out) 0).trans rfl; have hfz4 : w4.frozen? ⟨g, 0, none⟩ = false := blk_frozen (blk_below H1.out Hb4.out) 0; clear HO4' Hb4' hgr4))
    go_end0
    exact ⟨rfl, put_done H1.out h2 hB Hb4.out (by simpa using HO4.out)⟩
/-- Delete, of a key that is not there. -/
theorem delete_no (m : List S57) (key : ByteArray) (i : Nat) (hs : Seeks m key i false) (w : World) (B g : Nat) (hT : IsM w B g m) :
    Calls Try.prog 15 #[.pointer (some ⟨g, 0, none⟩), .string key] w fun e w' => e = .returned (.bool false) ∧ Drawn0 w w' := by
  obtain ⟨A, c, h1, h2, h3⟩ := hT
  obtain ⟨-, hc, hC⟩ := Kd.R_reads' h3
  have hcell : w.cell? ⟨g, 0, none⟩ = some (.slice A m.length c) := (blk_cell h1 0).trans rfl
  have HS := Lib.hid (hs.calls w A c hC hc)
  clear hs hC h1 h3
  go_enter Try.func15, Try.ntmps15
  go_wp2_with (go_at_call 25; refine (HS.out).mono ?_; rintro e w' ⟨rfl, ⟨md, rfl⟩⟩)
  go_ret
  exact ⟨rfl, ⟨_, rfl⟩⟩
/-- Delete, of a key that is there. -/
theorem delete_yes (m : List S57) (hl : m.length ≤ 1000) (key : ByteArray) (i : Nat) (hs : Seeks m key i true) (w : World) (B g : Nat) (hB : B ≤ w.heap.size) (hT : IsM w B g m) :
    Calls Try.prog 15 #[.pointer (some ⟨g, 0, none⟩), .string key] w fun e w' => e = .returned (.bool true) ∧
      IsM w' B g (m.take i ++ m.drop (i + 1)) ∧ w.grownBy w' (some g) := by
  obtain ⟨A, c, h1, h2, h3⟩ := hT
  obtain ⟨-, hc, hC⟩ := Kd.R_reads' h3
  have hcell : w.cell? ⟨g, 0, none⟩ = some (.slice A m.length c) := (blk_cell h1 0).trans rfl
  have HS := Lib.hid (hs.calls w A c hC hc)
  have hi := hs.1
  have hlt1 := hs.2.1 rfl
  obtain ⟨i0, hi0, hz0, hz1, hz2⟩ := info_parts info57
  have hcut1 := cut_from (P := Try.prog) 39 57 .i64 Try.underlying39 hi0 2 hz1 A m.length c ((i : Int) + 1) (by omega) (by omega)
  have hcut2 := cut_to (P := Try.prog) 39 57 .i64 Try.underlying39 hi0 A m.length c (i : Int) (by omega) (by omega) hc
  rw [show ((i : Int) + 1).toNat = i + 1 from by omega] at hcut1
  simp only [Int.toNat_natCast] at hcut2
  have hCt := Kd.C_take hC hi
  have hlt : (m.take i).length = i := by rw [List.length_take]; omega
  rw [hlt] at hCt
  have hCd := Kd.C_drop hC (m := i + 1) hlt1 hc
  rw [List.length_drop] at hCd
  have hg : g < w.heap.size := blk_lt h1
  have H1 := Lib.hid h1
  have HCt := Lib.hid hCt
  have Hlt := Lib.hid hlt
  obtain ⟨A1, hA1⟩ : ∃ A1, A1 = (if c = i + 1 then A else A.map (·.add ((i + 1) * 2))) := ⟨_, rfl⟩
  have hcut1' := hcut1
  rw [← hA1] at hcut1'
  have hA1' : (if c = i + 1 then A else A.map (·.add ((i + 1) * k57.sz))) = A1 := hA1.symm
  rw [hA1'] at hCd
  have HC1 := Lib.hid hCd
  clear hcut1 hA1 hA1' hCd hCt hlt h1 h3 hC hs
  go_enter Try.func15, Try.ntmps15
  go_wp2_with (first
      | (go_at_call 25; refine (HS.out).mono ?_; rintro e w' ⟨rfl, ⟨md, rfl⟩⟩)
      | (at_make; refine wpList_make_own _ rfl (.const (.int .i64 0)) (.tmp 25) 39 rfl w.heap.size 57 i0 _ 2 Try.underlying39 hi0 hz0 hz1 .i64 .i64 _ m.length rfl rfl (by omega) ?b2 ?b3 (Nat.le_refl _) ?_; (case b2 => rw [hz2]; omega); (case b3 => unfold maxLen; omega); intro w1 hown hgr; have Hb1 : Hid (Below w.heap.size w w1) := (pw_below_drewN (Below.refl _ _) md).grown hgr (Nat.le_refl _) (by simp); have HO1 : Hid (Kd.R k57 57 w1 w.heap.size (fun _ => True) (.slice (some ⟨w.heap.size, 0, none⟩) 0 m.length) []) := ⟨fun _ _ => trivial, [], hown, rfl, fun j p hj => by simp at hj⟩; have hcell1 : w1.cell? ⟨g, 0, none⟩ = some (.slice A m.length c) := (blk_cell (blk_below H1.out Hb1.out) 0).trans rfl; clear hown hgr)
      | (at_builtin; refine Kd.R_append_rows k57 (w0 := w) w.heap.size rfl (.tmp 27) (.tmp 33) 39 57 (.agg #[.string ⟨#[]⟩, .string ⟨#[]⟩]) 32 rfl Try.underlying39 info57 rfl (by decide) (by omega) _ [] (m.take i) A i c (fun _ => True) (fun _ => False) rfl rfl HO1.out (Kd.C_below HCt.out Hb1.out) ?aM (fun _ h => h.elim) (fun _ _ => trivial) Hb1.out (below_size Hb1.out) ?aL ?_; (case aM => intro x cs hx; exact k57M hx); (case aL => simp only [List.length_nil]; omega); intro v2 w2 HO2' Hb2' hgr2 _; have HO2 := Lib.hid HO2'; have Hb2 := Lib.hid Hb2'; have hcell2 : w2.cell? ⟨g, 0, none⟩ = some (.slice A m.length c) := (blk_cell (blk_below H1.out Hb2.out) 0).trans rfl; clear HO2' Hb2' hgr2)
      | (at_builtin; refine Kd.R_append_rows k57 (w0 := w) w.heap.size rfl (.tmp 36) (.tmp 43) 39 57 (.agg #[.string ⟨#[]⟩, .string ⟨#[]⟩]) 32 rfl Try.underlying39 info57 rfl (by decide) (by omega) v2 ([] ++ m.take i) (m.drop (i + 1)) A1 (m.length - (i + 1)) (c - (i + 1)) (fun _ => True) (fun _ => False) rfl rfl HO2.out (Kd.C_below HC1.out Hb2.out) ?aM (fun _ h => h.elim) (fun _ _ => trivial) Hb2.out (below_size Hb2.out) ?aL ?_; (case aM => intro x cs hx; exact k57M hx); (case aL => simp only [List.length_append, List.length_nil]; rw [Hlt.out]; omega); intro v4 w4 HO4' Hb4' hgr4 _; obtain ⟨A4, n4, c4, hv4⟩ := slice_of HO4'; subst hv4; have HO4 := Lib.hid HO4'; have Hb4 := Lib.hid Hb4'; have hcell4 : w4.cell? ⟨g, 0, none⟩ = some (.slice A m.length c) := (blk_cell (blk_below H1.out Hb4.out) 0).trans rfl; have hfz4 : w4.frozen? ⟨g, 0, none⟩ = false := blk_frozen (blk_below H1.out Hb4.out) 0; clear HO4' Hb4' hgr4))
  go_ret
  exact ⟨rfl, put_done H1.out h2 hB Hb4.out (by simpa using HO4.out)⟩
/-- Copy. -/
theorem copy_raw (m : List S57) (hl : m.length ≤ 1000) (w : World) (B g : Nat) (hB : B ≤ w.heap.size) (hT : IsM w B g m) :
    Calls Try.prog 24 #[.pointer (some ⟨g, 0, none⟩)] w fun e w' => ∃ q, e = .returned (.pointer (some ⟨q, 0, none⟩)) ∧ IsM w' B q m ∧ w.heap.size ≤ q ∧ Below w.heap.size w w' := by
  obtain ⟨A, c, h1, h2, h3⟩ := hT
  obtain ⟨-, hc, hC⟩ := Kd.R_reads' h3
  have hcell : w.cell? ⟨g, 0, none⟩ = some (.slice A m.length c) := (blk_cell h1 0).trans rfl
  have HC := Lib.hid hC
  have hu41 := Try.underlying41
  have hcell2 : ∀ o : Obj, (w.alloc o).cell? ⟨g, 0, none⟩ = some (.slice A m.length c) := fun o => (blk_cell (blk_alloc h1 o) 0).trans rfl
  have HO1 : Hid (Kd.R k57 57 (w.alloc (.cells #[] 57)) w.heap.size (fun _ => True) (.slice (some ⟨w.heap.size, 0, none⟩) 0 0) []) :=
    ⟨fun _ _ => trivial, [], ⟨rfl, .inr ⟨w.heap.size, 0, #[], rfl, Nat.le_refl _, blk_new w _, Nat.le_refl _, by simp [maxLen], rfl, rfl⟩⟩, rfl, fun j p hj => by simp at hj⟩
  have Hb1 : Hid (Below w.heap.size w (w.alloc (.cells #[] 57))) := (Below.refl _ _).alloc (Nat.le_refl _) _
  clear h1 h3 hC
  go_enter Try.func24, Try.ntmps24
  go_wp2_with (at_builtin; refine Kd.R_append_rows k57 (w0 := w) w.heap.size rfl (.tmp 5) (.tmp 9) 39 57 (.agg #[.string ⟨#[]⟩, .string ⟨#[]⟩]) 32 rfl Try.underlying39 info57 rfl (by decide) (by omega) _ [] m A m.length c (fun _ => True) (fun _ => False) rfl rfl HO1.out (Kd.C_below HC.out Hb1.out) ?aM (fun _ h => h.elim) (fun _ _ => trivial) Hb1.out (below_size Hb1.out) ?aL ?_; (case aM => intro x cs hx; exact k57M hx); (case aL => simp only [List.length_nil]; omega); intro v4 w4 HO4' Hb4' hgr4 _; rw [List.nil_append] at HO4'; obtain ⟨A4, n4, c4, hv4⟩ := slice_of HO4'; subst hv4; have HO4 := Lib.hid HO4'; have Hb4 := Lib.hid Hb4'; clear HO4' Hb4' hgr4)
  go_ret
  refine ⟨_, rfl, ?_, Hb4.out.size, Hb4.out.alloc Hb4.out.size _⟩
  obtain ⟨A5, c5, he⟩ := Kd.R_slice HO4.out
  injection he with e1 e2 e3
  subst e1 e2 e3
  exact ⟨_, _, blk_new w4 _, Nat.le_trans hB Hb4.out.size, Kd.R_lower (Kd.R_alloc HO4.out _) hB⟩
end Go.Proofs.Ytcjnmipmdnlkmaa.TabC
