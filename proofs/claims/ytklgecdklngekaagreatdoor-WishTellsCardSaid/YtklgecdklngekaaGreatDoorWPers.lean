/- person.Right at the chapter's example. -/
import Derived.Test.YtklgecdklngekaaGreatDoorQx7
import Derived.Deep.QuietTactic
namespace Go.Proofs.YtklgecdklngekaaGreatDoor.WPers
set_option linter.unusedVariables false
set_option linter.unusedSimpArgs false
open Go.RowKit Go.Proofs.YtklgecdklngekaaGreatDoorW.PrintWords Go.Proofs.YtklgecdklngekaaGreatDoorW.PrintLast Go.Proofs.YtklgecdklngekaaGreatDoor.Q
set_option maxHeartbeats 2000000 in
set_option maxRecDepth 100000 in
theorem index0 (A : Option Addr) (c : Nat) (fv : Value) (W : World) : Calls Tryz.prog 164 #[.slice A 0 c, fv] W fun e w' => e = .returned (.int .i64 (-1)) ∧ Below W.heap.size W w' := by
  go_enter Tryz.func164, Tryz.ntmps164
  go_wp2
  go_loopw [8] (fun v wr => v = .int .i64 0 ∧ Hid (Below W.heap.size W wr)) (fun _ _ => 0)
  case atStart => exact ⟨rfl, Below.refl _ _⟩
  case round =>
    obtain ⟨rfl, HB⟩ := hrel
    go_wp2
    go_ret
    exact ⟨rfl, HB.out⟩
def odd (gb : Nat) : Value := .func (.func 143) #[] #[.pointer (some ⟨gb, 0, none⟩)]
def GB (W : World) (gb : Nat) : Prop := W.heap[gb]? = some (.cells #[.int .i64 4, .int .i64 5, .int .i64 40] 36 (0, 0))
theorem contains0 (A : Option Addr) (c : Nat) (fv : Value) (W : World) : Calls Tryz.prog 142 #[.slice A 0 c, fv] W fun e w' => e = .returned (.bool false) ∧ Below W.heap.size W w' := by
  go_enter Tryz.func142, Tryz.ntmps142
  go_wp2_with (go_at_call 164; refine (index0 _ _ _ _).mono ?_; rintro e w' ⟨rfl, hb⟩)
  go_ret
  exact ⟨rfl, hb⟩
set_option maxHeartbeats 2000000 in
set_option maxRecDepth 100000 in
theorem right_of (A : Option Addr) (n c : Nat) (hn : n ≤ 16) (W : World)
    (hcon : ∀ W', Below W.heap.size W W' → GB W' W.heap.size → Calls Tryz.prog 142 #[.slice A n c, odd W.heap.size] W' fun e w' => e = .returned (.bool false) ∧ Below W'.heap.size W' w') :
    Calls Tryz.prog 106 #[.agg #[.int .i64 4, .int .i64 5, .int .i64 40], .agg #[.string ⟨#[120]⟩, .slice A n c]] W fun e w' => e = .returned (.bool true) ∧ Below W.heap.size W w' := by
  have hu36 := Tryz.underlying36
  have hu39 := Tryz.underlying39
  have Hcon := Lib.hid hcon
  have hn1 : (n : Int) ≤ 16 := by omega
  clear hcon
  go_enter Tryz.func106, Tryz.ntmps106
  go_wp2_with fail
  have HG2 := Lib.hid (blk_alloc (blk_new W (.cells #[.int .i64 4, .int .i64 5, .int .i64 40] 36)) (.cells #[.string ⟨#[120]⟩, .slice A n c] 39))
  have hp2 := blk_new (W.alloc (.cells #[.int .i64 4, .int .i64 5, .int .i64 40] 36)) (.cells #[.string ⟨#[120]⟩, .slice A n c] 39)
  rw [World.size_alloc] at hp2
  have HP2 := Lib.hid hp2
  have HB2 := Lib.hid (below_alloc (below_alloc (Below.refl W.heap.size W) (.cells #[.int .i64 4, .int .i64 5, .int .i64 40] 36)) (.cells #[.string ⟨#[120]⟩, .slice A n c] 39))
  clear hp2
  generalize (W.alloc (.cells #[.int .i64 4, .int .i64 5, .int .i64 40] 36)).alloc (.cells #[.string ⟨#[120]⟩, .slice A n c] 39) = W2 at *
  refine (when_RightGrid.calls 4 5 40 true W2 (by kernel_rfl)).mono ?_
  rintro e W3 ⟨rfl, hb3⟩
  have p0 : W3.cell? ⟨W.heap.size + 1, 0, none⟩ = some (.string ⟨#[120]⟩) := (blk_cell (blk_below HP2.out hb3) 0).trans rfl
  go_wp2_with fail
  refine (room_Name.calls _ true W3 (by kernel_rfl)).mono ?_
  rintro e W4 ⟨rfl, hd4⟩
  have hb4 := hd4.below
  have HG4 := Lib.hid (blk_below (blk_below HG2.out hb3) hb4)
  have HP4 := Lib.hid (blk_below (blk_below HP2.out hb3) hb4)
  have HB4 := Lib.hid (below_step (below_step HB2.out hb3) hb4)
  have p1 : W4.cell? ⟨W.heap.size + 1, 1, none⟩ = some (.slice A n c) := (blk_cell HP4.out 1).trans rfl
  clear p0 hb3 hb4 hd4 HG2 HP2 HB2
  go_wp2_with fail
  refine (Hcon.out W4 HB4.out HG4.out).mono ?_
  rintro e W5 ⟨rfl, hb5⟩
  go_wp2_with fail
  go_ret
  exact ⟨rfl, below_step HB4.out hb5⟩
theorem right0 (A : Option Addr) (c : Nat) (W : World) : Calls Tryz.prog 106 #[.agg #[.int .i64 4, .int .i64 5, .int .i64 40], .agg #[.string ⟨#[120]⟩, .slice A 0 c]] W fun e w' => e = .returned (.bool true) ∧ Below W.heap.size W w' :=
  right_of A 0 c (by omega) W fun W' _ _ => contains0 A c _ W'
def WB (W : World) (sb : Nat) (r : Array Value) : Prop := ∃ rest : List Value, r = ((#[.int .u32 7, .int .u8 1, .int .i64 16, .int .i64 4] : Array Value).toList ++ rest).toArray ∧ W.heap[sb]? = some (.cells r 25 (0, 0))
theorem WB.cells {W : World} {sb : Nat} {r : Array Value} (h : WB W sb r) : W.cell? ⟨sb, 0, none⟩ = some (.int .u32 7) ∧ W.cell? ⟨sb, 1, none⟩ = some (.int .u8 1) ∧ W.cell? ⟨sb, 2, none⟩ = some (.int .i64 16) ∧ W.cell? ⟨sb, 3, none⟩ = some (.int .i64 4) := by
  obtain ⟨rest, rfl, h⟩ := h
  exact ⟨(blk_cell h 0).trans rfl, (blk_cell h 1).trans rfl, (blk_cell h 2).trans rfl, (blk_cell h 3).trans rfl⟩
theorem WB.below {W W1 : World} {sb : Nat} {r : Array Value} (h : WB W sb r) (hb : Below W.heap.size W W1) : WB W1 sb r := by
  obtain ⟨rest, e, h⟩ := h
  exact ⟨rest, e, blk_below h hb⟩
set_option maxHeartbeats 2000000 in
set_option maxRecDepth 100000 in
theorem odd_c (gb : Nat) (W : World) (hg : GB W gb) : Calls Tryz.prog 143 #[.agg #[.int .u32 7, .int .u8 1, .int .i64 16, .int .i64 4], .pointer (some ⟨gb, 0, none⟩)] W fun e w' => e = .returned (.bool false) ∧ Below W.heap.size W w' := by
  have hu36 := Tryz.underlying36
  have hu25 := Tryz.underlying25
  have hg2 := blk_alloc hg (.cells #[.int .u32 7, .int .u8 1, .int .i64 16, .int .i64 4] 25)
  have g0 : (W.alloc (.cells #[.int .u32 7, .int .u8 1, .int .i64 16, .int .i64 4] 25)).cell? ⟨gb, 0, none⟩ = some (.int .i64 4) := (blk_cell hg2 0).trans rfl
  have g1 : (W.alloc (.cells #[.int .u32 7, .int .u8 1, .int .i64 16, .int .i64 4] 25)).cell? ⟨gb, 1, none⟩ = some (.int .i64 5) := (blk_cell hg2 1).trans rfl
  have g2 : (W.alloc (.cells #[.int .u32 7, .int .u8 1, .int .i64 16, .int .i64 4] 25)).cell? ⟨gb, 2, none⟩ = some (.int .i64 40) := (blk_cell hg2 2).trans rfl
  clear hg2 hg
  go_enter Tryz.func143, Tryz.ntmps143
  go_wp2_with fail
  refine (when_Right.calls 4 5 40 7 1 16 4 true _ (by kernel_rfl)).mono ?_
  rintro e W3 ⟨rfl, hb3⟩
  go_wp2_with fail
  go_ret
  exact ⟨rfl, below_step (below_alloc (Below.refl _ _) _) hb3⟩
set_option maxHeartbeats 2000000 in
set_option maxRecDepth 100000 in
theorem index1 (sb c gb : Nat) (r : Array Value) (W : World) (hw : WB W sb r) (hg : GB W gb) : Calls Tryz.prog 164 #[.slice (some ⟨sb, 0, none⟩) 1 c, odd gb] W fun e w' => e = .returned (.int .i64 (-1)) ∧ Below W.heap.size W w' := by
  have hu36 := Tryz.underlying36
  have hu25 := Tryz.underlying25
  have HW := Lib.hid hw
  have HG := Lib.hid hg
  clear hw hg
  unfold odd
  go_enter Tryz.func164, Tryz.ntmps164
  go_wp2
  go_loopw [8] (fun v wr => ∃ i : Nat, i ≤ 1 ∧ v = .int .i64 (i : Int) ∧ Hid (Below W.heap.size W wr)) (fun v _ => 1 - (intOf v).toNat)
  case atStart => exact ⟨0, by omega, rfl, Below.refl _ _⟩
  case round =>
    obtain ⟨i, hi, rfl, HB⟩ := hrel
    rcases (by omega : i = 0 ∨ i = 1) with rfl | rfl
    · obtain ⟨c0, c1, c2, c3⟩ := (HW.out.below HB.out).cells
      have hgr := blk_below HG.out HB.out
      go_wp2_with fail
      refine (odd_c gb wr hgr).mono ?_
      rintro e W3 ⟨rfl, hb3⟩
      have HB3 := Lib.hid (below_step HB.out hb3)
      clear hb3 HB c0 c1 c2 c3 hgr
      go_wp2
      go_roundw
      case rel => exact ⟨1, by omega, rfl, HB3.out⟩
      case measure => simp [intOf]
    · go_wp2
      go_ret
      exact ⟨rfl, HB.out⟩
theorem contains1 (sb c gb : Nat) (r : Array Value) (W : World) (hw : WB W sb r) (hg : GB W gb) : Calls Tryz.prog 142 #[.slice (some ⟨sb, 0, none⟩) 1 c, odd gb] W fun e w' => e = .returned (.bool false) ∧ Below W.heap.size W w' := by
  go_enter Tryz.func142, Tryz.ntmps142
  go_wp2_with (go_at_call 164; refine (index1 sb c gb r W hw hg).mono ?_; rintro e w' ⟨rfl, hb⟩)
  go_ret
  exact ⟨rfl, hb⟩
theorem right1 (sb c : Nat) (r : Array Value) (W : World) (hw : WB W sb r) : Calls Tryz.prog 106 #[.agg #[.int .i64 4, .int .i64 5, .int .i64 40], .agg #[.string ⟨#[120]⟩, .slice (some ⟨sb, 0, none⟩) 1 c]] W fun e w' => e = .returned (.bool true) ∧ Below W.heap.size W w' :=
  right_of _ 1 c (by omega) W fun W' hb hg => contains1 sb c _ r W' (hw.below hb) hg
end Go.Proofs.YtklgecdklngekaaGreatDoor.WPers
