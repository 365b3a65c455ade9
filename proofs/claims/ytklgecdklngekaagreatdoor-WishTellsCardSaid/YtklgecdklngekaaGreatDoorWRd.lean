/- The reader of wish.Parse: it takes words, one behind the other. -/
import Derived.Test.YtklgecdklngekaaGreatDoorQx7
import Derived.Deep.QuietTactic
namespace Go.Proofs.YtklgecdklngekaaGreatDoor.WRd
set_option linter.unusedVariables false
set_option linter.unusedSimpArgs false
open Go.RowKit Go.Proofs.YtklgecdklngekaaGreatDoorW.PrintWords Go.Proofs.YtklgecdklngekaaGreatDoorW.PrintLast Go.Proofs.YtklgecdklngekaaGreatDoor.Q
structure Fr (W W' : World) (rb : Nat) : Prop where
  os : W'.os = W.os
  tape : W'.tape = W.tape
  output : W'.output = W.output
  size : W.heap.size ≤ W'.heap.size
  block : ∀ k, k < W.heap.size → k ≠ rb → W'.heap[k]? = W.heap[k]?
theorem Fr.refl (W : World) (rb : Nat) : Fr W W rb := ⟨rfl, rfl, rfl, Nat.le_refl _, fun _ _ _ => rfl⟩
theorem Fr.step {W W1 W2 : World} {rb : Nat} (h : Fr W W1 rb) (hb : Below W1.heap.size W1 W2) : Fr W W2 rb :=
  ⟨hb.os.trans h.os, hb.tape.trans h.tape, hb.output.trans h.output, Nat.le_trans h.size hb.size, fun k hk hn => (hb.block k (Nat.lt_of_lt_of_le hk h.size)).trans (h.block k hk hn)⟩
theorem Fr.set {W W1 : World} {rb : Nat} (h : Fr W W1 rb) (b j : Nat) (hb : b = rb ∨ W.heap.size ≤ b) (v : Value) : Fr W (W1.setCell ⟨b, j, none⟩ v) rb :=
  ⟨h.os, h.tape, h.output, by have := h.size; simpa [World.setCell] using this, fun k hk hn => (Below.heap_setCell _ ⟨b, j, none⟩ _ k (by show k ≠ b; rcases hb with rfl | hb; exact hn; omega)).trans (h.block k hk hn)⟩
theorem Fr.trans {W W1 W2 : World} {rb : Nat} (h : Fr W W1 rb) (k : Fr W1 W2 rb) : Fr W W2 rb :=
  ⟨k.os.trans h.os, k.tape.trans h.tape, k.output.trans h.output, Nat.le_trans h.size k.size, fun j hj hn => (k.block j (Nat.lt_of_lt_of_le hj h.size) hn).trans (h.block j hj hn)⟩
theorem Fr.below {w W W1 : World} {rb : Nat} (hw : Below w.heap.size w W) (h : Fr W W1 rb) (hr : w.heap.size ≤ rb) : Below w.heap.size w W1 :=
  ⟨h.os.trans hw.os, h.tape.trans hw.tape, h.output.trans hw.output, Nat.le_trans hw.size h.size, fun k hk => (h.block k (Nat.lt_of_lt_of_le hk hw.size) (by omega)).trans (hw.block k hk)⟩
def Rd (W : World) (rb : Nat) (l : List ByteArray) (bad : Bool) : Prop :=
  ∃ (sb off : Nat) (cur : Array Value) (c : Nat), W.heap[rb]? = some (.cells #[.slice (some ⟨sb, off, none⟩) l.length c, .bool bad] 79 (0, 0)) ∧ W.heap[sb]? = some (.cells cur 9 (0, 0)) ∧ l.length ≤ c ∧ (∀ j s, l[j]? = some s → cur[off + j]? = some (.string s))
theorem Rd.below {W W1 : World} {rb : Nat} {l : List ByteArray} {bad : Bool} (h : Rd W rb l bad) (hb : Below W.heap.size W W1) : Rd W1 rb l bad := by
  obtain ⟨sb, off, cur, c, h1, h2, h3, h4⟩ := h
  exact ⟨sb, off, cur, c, blk_below h1 hb, blk_below h2 hb, h3, h4⟩
set_option maxHeartbeats 2000000 in
set_option maxRecDepth 100000 in
theorem next_c (W : World) (rb : Nat) (s : ByteArray) (l : List ByteArray) (hl : l.length ≤ 4000000) (bad : Bool) (h : Rd W rb (s :: l) bad) :
    Calls Tryz.prog 30 #[.pointer (some ⟨rb, 0, none⟩)] W fun e w' => e = .returned (.string s) ∧ ∃ v, w' = W.setCell ⟨rb, 0, none⟩ v ∧ Hid (Rd w' rb l bad) := by
  obtain ⟨sb, off, cur, c, h1, h2, h3, h4⟩ := h
  have hne : rb ≠ sb := by
    rintro rfl
    rw [h1] at h2
    injection h2 with h2
    injection h2 with _ h2
    cases h2
  have hc0 : W.cell? ⟨rb, 0, none⟩ = some (.slice (some ⟨sb, off, none⟩) (l.length + 1) c) := (blk_cell h1 0).trans rfl
  have hf0 : W.frozen? ⟨rb, 0, none⟩ = false := blk_frozen h1 0
  have hs0 : W.cell? ⟨sb, off, none⟩ = some (.string s) := (blk_cell h2 off).trans (h4 0 s rfl)
  have hlc : l.length + 1 ≤ c := h3
  have H1 := Lib.hid h1
  have H2 := Lib.hid h2
  have H4 := Lib.hid h4
  clear h1 h2 h4 h3
  go_enter Tryz.func30, Tryz.ntmps30
  go_wp2
  all_goals (
    go_ret
    refine ⟨rfl, ⟨_, rfl⟩, ?_⟩
    first
      | exact ⟨sb, off + 1, cur, _, blk_set H1.out 0 _, (Below.heap_setCell _ ⟨rb, 0, none⟩ _ sb (Ne.symm hne)).trans H2.out, by omega, fun j s' hj => by rw [show off + 1 + j = off + (j + 1) from by omega]; exact H4.out (j + 1) s' hj⟩
      | exact ⟨sb, off, cur, _, blk_set H1.out 0 _, (Below.heap_setCell _ ⟨rb, 0, none⟩ _ sb (Ne.symm hne)).trans H2.out, by omega, fun j s' hj => by have := (List.getElem?_eq_some_iff.1 hj).1; omega⟩)
theorem Rd.mark {W : World} {rb : Nat} {l : List ByteArray} {bad : Bool} (h : Rd W rb l bad) (b : Bool) : Rd (W.setCell ⟨rb, 1, none⟩ (.bool b)) rb l b := by
  obtain ⟨sb, off, cur, c, h1, h2, h3, h4⟩ := h
  have hne : rb ≠ sb := by
    rintro rfl
    rw [h1] at h2
    injection h2 with h2
    injection h2 with _ h2
    cases h2
  exact ⟨sb, off, cur, c, blk_set h1 1 _, (Below.heap_setCell _ ⟨rb, 1, none⟩ _ sb (Ne.symm hne)).trans h2, h3, h4⟩
theorem Rd.cells {W : World} {rb : Nat} {l : List ByteArray} {bad : Bool} (h : Rd W rb l bad) : (∃ v, W.cell? ⟨rb, 0, none⟩ = some v) ∧ W.cell? ⟨rb, 1, none⟩ = some (.bool bad) ∧ W.frozen? ⟨rb, 1, none⟩ = false := by
  obtain ⟨sb, off, cur, c, h1, h2, h3, h4⟩ := h
  exact ⟨⟨_, (blk_cell h1 0).trans rfl⟩, (blk_cell h1 1).trans rfl, blk_frozen h1 1⟩
theorem Rd.farT {W : World} {rb : Nat} {l : List ByteArray} {bad : Bool} (h : Rd W rb l bad) {zb ty : Nat} (h1 : ty ≠ 79) (h2 : ty ≠ 9) (cs : Array Value) (hz : W.heap[zb]? = some (.cells cs ty (0, 0))) (j : Nat) (v : Value) : Rd (W.setCell ⟨zb, j, none⟩ v) rb l bad := by
  obtain ⟨sb, off, cur, c, e1, e2, h3, h4⟩ := h
  have hne : rb ≠ zb := by
    rintro rfl
    rw [e1] at hz
    injection hz with hz
    injection hz with _ hz
    exact h1 hz.symm
  have hne2 : sb ≠ zb := by
    rintro rfl
    rw [e2] at hz
    injection hz with hz
    injection hz with _ hz
    exact h2 hz.symm
  exact ⟨sb, off, cur, c, (Below.heap_setCell _ ⟨zb, j, none⟩ _ rb hne).trans e1, (Below.heap_setCell _ ⟨zb, j, none⟩ _ sb hne2).trans e2, h3, h4⟩
theorem Rd.lt {W : World} {rb : Nat} {l : List ByteArray} {bad : Bool} (h : Rd W rb l bad) : rb < W.heap.size := by
  obtain ⟨sb, off, cur, c, e1, _⟩ := h
  exact blk_lt e1
theorem Rd.ends {W : World} {rb : Nat} {bad : Bool} (h : Rd W rb [] bad) : ∃ A c, W.cell? ⟨rb, 0, none⟩ = some (.slice A 0 c) ∧ W.cell? ⟨rb, 1, none⟩ = some (.bool bad) := by
  obtain ⟨sb, off, cur, c, e1, _⟩ := h
  exact ⟨_, _, (blk_cell e1 0).trans rfl, (blk_cell e1 1).trans rfl⟩
theorem Rd.far {W : World} {rb : Nat} {l : List ByteArray} {bad : Bool} (h : Rd W rb l bad) {zb : Nat} (cs : Array Value) (hz : W.heap[zb]? = some (.cells cs 25 (0, 0))) (j : Nat) (v : Value) : Rd (W.setCell ⟨zb, j, none⟩ v) rb l bad := by
  obtain ⟨sb, off, cur, c, h1, h2, h3, h4⟩ := h
  have hne : rb ≠ zb := by
    rintro rfl
    rw [h1] at hz
    injection hz with hz
    injection hz with _ hz
    cases hz
  have hne2 : sb ≠ zb := by
    rintro rfl
    rw [h2] at hz
    injection hz with hz
    injection hz with _ hz
    cases hz
  exact ⟨sb, off, cur, c, (Below.heap_setCell _ ⟨zb, j, none⟩ _ rb hne).trans h1, (Below.heap_setCell _ ⟨zb, j, none⟩ _ sb hne2).trans h2, h3, h4⟩
theorem number_c (W : World) (rb : Nat) (s : ByteArray) (l : List ByteArray) (hl : l.length ≤ 4000000) (h : Rd W rb (s :: l) false) (k : Nat) (n : Int) (hn : digits_Parse.f k s = some (n, 0)) :
    Calls Tryz.prog 31 #[.pointer (some ⟨rb, 0, none⟩)] W fun e w' => e = .returned (.int .i64 n) ∧ Hid (Rd w' rb l false) ∧ Hid (Fr W w' rb) := by
  have Hn := Lib.hid hn
  clear hn
  go_enter Tryz.func31, Tryz.ntmps31
  go_wp2_with fail
  refine (next_c W rb s l hl false h).mono ?_
  rintro e w2 ⟨rfl, v, rfl, H2⟩
  have Hb2 : Hid (Fr W (W.setCell ⟨rb, 0, none⟩ v) rb) := (Fr.refl W rb).set rb 0 (.inl rfl) v
  generalize W.setCell ⟨rb, 0, none⟩ v = w2 at *
  go_wp2_with fail
  refine (digits_Parse.calls _ _ _ _ _ Hn.out).mono ?_
  rintro e w3 ⟨rfl, hd3⟩
  have hb3 := hd3.below
  clear hd3
  have H3 := Lib.hid (H2.out.below hb3)
  have Hb3 := Lib.hid (Hb2.out.step hb3)
  obtain ⟨⟨v0, hc0⟩, hc1, hf1⟩ := H3.out.cells
  have H4 := Lib.hid (H3.out.mark false)
  have Hb4 : Hid (Fr W (w3.setCell ⟨rb, 1, none⟩ (.bool false)) rb) := Hb3.out.set rb 1 (.inl rfl) _
  clear hb3
  go_wp2
  go_ret
  exact ⟨rfl, H4, Hb4⟩
set_option maxHeartbeats 2000000 in
set_option maxRecDepth 100000 in
theorem time_c (W : World) (rb : Nat) (g0 g1 g2 : Int) (s1 s2 s3 : ByteArray) (hz : s1.size + s2.size + s3.size ≤ 4000000) (l : List ByteArray) (hl : l.length ≤ 4000) (h : Rd W rb (s1 :: s2 :: s3 :: l) false) (k : Nat) (r1 r2 r3 r4 : Int)
    (hn : clock_Parse.f k g0 g1 g2 (s1 ++ ⟨#[32]⟩ ++ s2 ++ ⟨#[32]⟩ ++ s3) = some (r1, r2, r3, r4, 0)) :
    Calls Tryz.prog 32 #[.pointer (some ⟨rb, 0, none⟩), .agg #[.int .i64 g0, .int .i64 g1, .int .i64 g2]] W fun e w' => e = .returned (.agg #[.int .u32 r1, .int .u8 r2, .int .i64 r3, .int .i64 r4]) ∧ Hid (Rd w' rb l false) ∧ Hid (Fr W w' rb) := by
  have Hn := Lib.hid hn
  have H := Lib.hid h
  clear hn h
  go_enter Tryz.func32, Tryz.ntmps32
  go_wp2_with fail
  have hrl : rb < W.heap.size := by
    obtain ⟨sb, off, cur, c, h1, _⟩ := H.out
    exact blk_lt h1
  have H2 := Lib.hid (H.out.below (below_alloc (below_alloc (Below.refl _ _) (.cells #[.int .i64 g0, .int .i64 g1, .int .i64 g2] 36)) (.cells #[.int .u32 0, .int .u8 0, .int .i64 0, .int .i64 0] 25)))
  have HB2 := Lib.hid ((Fr.refl W rb).step (below_alloc (below_alloc (Below.refl W.heap.size W) (.cells #[.int .i64 g0, .int .i64 g1, .int .i64 g2] 36)) (.cells #[.int .u32 0, .int .u8 0, .int .i64 0, .int .i64 0] 25)))
  have HG2 := Lib.hid (blk_alloc (blk_new W (.cells #[.int .i64 g0, .int .i64 g1, .int .i64 g2] 36)) (.cells #[.int .u32 0, .int .u8 0, .int .i64 0, .int .i64 0] 25))
  have hz2 := blk_new (W.alloc (.cells #[.int .i64 g0, .int .i64 g1, .int .i64 g2] 36)) (.cells #[.int .u32 0, .int .u8 0, .int .i64 0, .int .i64 0] 25)
  have HZ2 := Lib.hid hz2
  rw [World.size_alloc] at HZ2
  have hgr : W.heap.size ≠ rb := by omega
  have hzr : W.heap.size + 1 ≠ rb := by omega
  clear hz2
  generalize (W.alloc (.cells #[.int .i64 g0, .int .i64 g1, .int .i64 g2] 36)).alloc (.cells #[.int .u32 0, .int .u8 0, .int .i64 0, .int .i64 0] 25) = W2 at *
  refine (next_c W2 rb s1 (s2 :: s3 :: l) (by simp only [List.length_cons]; omega) false H2.out).mono ?_
  rintro e W3 ⟨rfl, v, rfl, H3⟩
  have HB3 : Hid (Fr W (W2.setCell ⟨rb, 0, none⟩ v) rb) := HB2.out.set rb 0 (.inl rfl) v
  have HG3 : Hid ((W2.setCell ⟨rb, 0, none⟩ v).heap[W.heap.size]? = some (.cells #[.int .i64 g0, .int .i64 g1, .int .i64 g2] 36 (0, 0))) := (Below.heap_setCell _ ⟨rb, 0, none⟩ _ W.heap.size hgr).trans HG2.out
  have HZ3 : Hid ((W2.setCell ⟨rb, 0, none⟩ v).heap[W.heap.size + 1]? = some (.cells #[.int .u32 0, .int .u8 0, .int .i64 0, .int .i64 0] 25 (0, 0))) := (Below.heap_setCell _ ⟨rb, 0, none⟩ _ (W.heap.size + 1) hzr).trans HZ2.out
  generalize W2.setCell ⟨rb, 0, none⟩ v = W3 at *
  go_wp2_with fail
  refine (next_c W3 rb s2 (s3 :: l) (by simp only [List.length_cons]; omega) false H3.out).mono ?_
  rintro e W4 ⟨rfl, v, rfl, H4⟩
  have HB4 : Hid (Fr W (W3.setCell ⟨rb, 0, none⟩ v) rb) := HB3.out.set rb 0 (.inl rfl) v
  have HG4 : Hid ((W3.setCell ⟨rb, 0, none⟩ v).heap[W.heap.size]? = some (.cells #[.int .i64 g0, .int .i64 g1, .int .i64 g2] 36 (0, 0))) := (Below.heap_setCell _ ⟨rb, 0, none⟩ _ W.heap.size hgr).trans HG3.out
  have HZ4 : Hid ((W3.setCell ⟨rb, 0, none⟩ v).heap[W.heap.size + 1]? = some (.cells #[.int .u32 0, .int .u8 0, .int .i64 0, .int .i64 0] 25 (0, 0))) := (Below.heap_setCell _ ⟨rb, 0, none⟩ _ (W.heap.size + 1) hzr).trans HZ3.out
  generalize W3.setCell ⟨rb, 0, none⟩ v = W4 at *
  go_wp2_with fail
  refine (next_c W4 rb s3 l (by omega) false H4.out).mono ?_
  rintro e W5 ⟨rfl, v, rfl, H5⟩
  have HB5 : Hid (Fr W (W4.setCell ⟨rb, 0, none⟩ v) rb) := HB4.out.set rb 0 (.inl rfl) v
  have HG5 : Hid ((W4.setCell ⟨rb, 0, none⟩ v).heap[W.heap.size]? = some (.cells #[.int .i64 g0, .int .i64 g1, .int .i64 g2] 36 (0, 0))) := (Below.heap_setCell _ ⟨rb, 0, none⟩ _ W.heap.size hgr).trans HG4.out
  have HZ5 : Hid ((W4.setCell ⟨rb, 0, none⟩ v).heap[W.heap.size + 1]? = some (.cells #[.int .u32 0, .int .u8 0, .int .i64 0, .int .i64 0] 25 (0, 0))) := (Below.heap_setCell _ ⟨rb, 0, none⟩ _ (W.heap.size + 1) hzr).trans HZ4.out
  generalize W4.setCell ⟨rb, 0, none⟩ v = W5 at *
  clear H2 HB2 HG2 HZ2 H3 HB3 HG3 HZ3 H4 HB4 HG4 HZ4
  have q0 : W5.cell? ⟨W.heap.size, 0, none⟩ = some (.int .i64 g0) := (blk_cell HG5.out 0).trans rfl
  have q1 : W5.cell? ⟨W.heap.size, 1, none⟩ = some (.int .i64 g1) := (blk_cell HG5.out 1).trans rfl
  have q2 : W5.cell? ⟨W.heap.size, 2, none⟩ = some (.int .i64 g2) := (blk_cell HG5.out 2).trans rfl
  have hu36 := Tryz.underlying36
  have hu25 := Tryz.underlying25
  go_wp2_with fail
  refine (clock_Parse.calls k g0 g1 g2 _ r1 r2 r3 r4 0 W5 Hn.out).mono ?_
  rintro e W6 ⟨rfl, hb6⟩
  have H6 := Lib.hid (H5.out.below hb6)
  have HB6 := Lib.hid (HB5.out.step hb6)
  have HZ6 := Lib.hid (blk_below HZ5.out hb6)
  clear H5 HB5 HG5 HZ5 q0 q1 q2 hb6
  have hmk : ∀ o : Obj, (W6.alloc o).cell? ⟨rb, 1, none⟩ = some (.bool false) := fun o => (H6.out.below (below_alloc (Below.refl _ _) o)).cells.2.1
  have hmf : ∀ o : Obj, (W6.alloc o).frozen? ⟨rb, 1, none⟩ = false := fun o => (H6.out.below (below_alloc (Below.refl _ _) o)).cells.2.2
  have hrl6 : rb < W6.heap.size := by
    obtain ⟨sb, off, cur, c, h1, _⟩ := H6.out
    exact blk_lt h1
  have hs7 : (W6.setCell ⟨rb, 1, none⟩ (.bool false)).heap.size = W6.heap.size := by simp [World.setCell]
  have hT : ((W6.setCell ⟨rb, 1, none⟩ (.bool false)).alloc (.cells #[.int .u32 r1, .int .u8 r2, .int .i64 r3, .int .i64 r4] 25)).heap[W6.heap.size]? = some (.cells #[.int .u32 r1, .int .u8 r2, .int .i64 r3, .int .i64 r4] 25 (0, 0)) := by
    have := blk_new (W6.setCell ⟨rb, 1, none⟩ (.bool false)) (.cells #[.int .u32 r1, .int .u8 r2, .int .i64 r3, .int .i64 r4] 25)
    rw [hs7] at this
    exact this
  have hZ : (W6.setCell ⟨rb, 1, none⟩ (.bool false)).heap[W.heap.size + 1]? = some (.cells #[.int .u32 0, .int .u8 0, .int .i64 0, .int .i64 0] 25 (0, 0)) := (Below.heap_setCell _ ⟨rb, 1, none⟩ _ (W.heap.size + 1) hzr).trans HZ6.out
  have hZa := blk_alloc hZ (.cells #[.int .u32 r1, .int .u8 r2, .int .i64 r3, .int .i64 r4] 25)
  have H7 : Hid (Rd (W6.setCell ⟨rb, 1, none⟩ (.bool false)) rb l false) := H6.out.mark false
  have HB7 : Hid (Fr W (W6.setCell ⟨rb, 1, none⟩ (.bool false)) rb) := HB6.out.set rb 1 (.inl rfl) _
  have t0 : ((W6.setCell ⟨rb, 1, none⟩ (.bool false)).alloc (.cells #[.int .u32 r1, .int .u8 r2, .int .i64 r3, .int .i64 r4] 25)).cell? ⟨W6.heap.size, 0, none⟩ = some (.int .u32 r1) := (blk_cell hT 0).trans rfl
  have z0 : ((W6.setCell ⟨rb, 1, none⟩ (.bool false)).alloc (.cells #[.int .u32 r1, .int .u8 r2, .int .i64 r3, .int .i64 r4] 25)).cell? ⟨W.heap.size + 1, 0, none⟩ = some (.int .u32 0) := (blk_cell hZa 0).trans rfl
  have y0 : ((W6.setCell ⟨rb, 1, none⟩ (.bool false)).alloc (.cells #[.int .u32 r1, .int .u8 r2, .int .i64 r3, .int .i64 r4] 25)).frozen? ⟨W.heap.size + 1, 0, none⟩ = false := blk_frozen hZa 0
  have t1 : ((W6.setCell ⟨rb, 1, none⟩ (.bool false)).alloc (.cells #[.int .u32 r1, .int .u8 r2, .int .i64 r3, .int .i64 r4] 25)).cell? ⟨W6.heap.size, 1, none⟩ = some (.int .u8 r2) := (blk_cell hT 1).trans rfl
  have z1 : ((W6.setCell ⟨rb, 1, none⟩ (.bool false)).alloc (.cells #[.int .u32 r1, .int .u8 r2, .int .i64 r3, .int .i64 r4] 25)).cell? ⟨W.heap.size + 1, 1, none⟩ = some (.int .u8 0) := (blk_cell hZa 1).trans rfl
  have y1 : ((W6.setCell ⟨rb, 1, none⟩ (.bool false)).alloc (.cells #[.int .u32 r1, .int .u8 r2, .int .i64 r3, .int .i64 r4] 25)).frozen? ⟨W.heap.size + 1, 1, none⟩ = false := blk_frozen hZa 1
  have t2 : ((W6.setCell ⟨rb, 1, none⟩ (.bool false)).alloc (.cells #[.int .u32 r1, .int .u8 r2, .int .i64 r3, .int .i64 r4] 25)).cell? ⟨W6.heap.size, 2, none⟩ = some (.int .i64 r3) := (blk_cell hT 2).trans rfl
  have z2 : ((W6.setCell ⟨rb, 1, none⟩ (.bool false)).alloc (.cells #[.int .u32 r1, .int .u8 r2, .int .i64 r3, .int .i64 r4] 25)).cell? ⟨W.heap.size + 1, 2, none⟩ = some (.int .i64 0) := (blk_cell hZa 2).trans rfl
  have y2 : ((W6.setCell ⟨rb, 1, none⟩ (.bool false)).alloc (.cells #[.int .u32 r1, .int .u8 r2, .int .i64 r3, .int .i64 r4] 25)).frozen? ⟨W.heap.size + 1, 2, none⟩ = false := blk_frozen hZa 2
  have t3 : ((W6.setCell ⟨rb, 1, none⟩ (.bool false)).alloc (.cells #[.int .u32 r1, .int .u8 r2, .int .i64 r3, .int .i64 r4] 25)).cell? ⟨W6.heap.size, 3, none⟩ = some (.int .i64 r4) := (blk_cell hT 3).trans rfl
  have z3 : ((W6.setCell ⟨rb, 1, none⟩ (.bool false)).alloc (.cells #[.int .u32 r1, .int .u8 r2, .int .i64 r3, .int .i64 r4] 25)).cell? ⟨W.heap.size + 1, 3, none⟩ = some (.int .i64 0) := (blk_cell hZa 3).trans rfl
  have y3 : ((W6.setCell ⟨rb, 1, none⟩ (.bool false)).alloc (.cells #[.int .u32 r1, .int .u8 r2, .int .i64 r3, .int .i64 r4] 25)).frozen? ⟨W.heap.size + 1, 3, none⟩ = false := blk_frozen hZa 3
  have HZ7 := Lib.hid hZa
  clear hT hZ hZa
  go_wp2_with fail
  have hX : Fr W ((W6.setCell ⟨rb, 1, none⟩ (.bool false)).alloc (.cells #[.int .u32 r1, .int .u8 r2, .int .i64 r3, .int .i64 r4] 25)) rb := HB7.out.step (below_alloc (Below.refl _ _) _)
  have hRX : Rd ((W6.setCell ⟨rb, 1, none⟩ (.bool false)).alloc (.cells #[.int .u32 r1, .int .u8 r2, .int .i64 r3, .int .i64 r4] 25)) rb l false := H7.out.below (below_alloc (Below.refl _ _) (.cells #[.int .u32 r1, .int .u8 r2, .int .i64 r3, .int .i64 r4] 25))
  have hZX := HZ7.out
  generalize ((W6.setCell ⟨rb, 1, none⟩ (.bool false)).alloc (.cells #[.int .u32 r1, .int .u8 r2, .int .i64 r3, .int .i64 r4] 25)) = X at *
  refine bodyPost_ret (results_cell_row rfl _ _ (W.heap.size + 1) 25 #[.int .u32 r1, .int .u8 r2, .int .i64 r3, .int .i64 r4] (0, 0) _ rfl (blk_set (blk_set (blk_set (blk_set hZX 0 _) 1 _) 2 _) 3 _) Tryz.underlying25 rfl (by kernel_rfl)) rfl ?_
  refine ⟨rfl, ?_, ?_⟩
  · exact (((hRX.far _ hZX 0 _).far _ (blk_set hZX 0 _) 1 _).far _ (blk_set (blk_set hZX 0 _) 1 _) 2 _).far _ (blk_set (blk_set (blk_set hZX 0 _) 1 _) 2 _) 3 _
  · exact (((hX.set _ 0 (.inr (Nat.le_succ _)) _).set _ 1 (.inr (Nat.le_succ _)) _).set _ 2 (.inr (Nat.le_succ _)) _).set _ 3 (.inr (Nat.le_succ _)) _
end Go.Proofs.YtklgecdklngekaaGreatDoor.WRd
