/- problem.Check at the chapter's example. -/
import Derived.Test.YtklgecdklngekaaGreatDoorWBad
import Derived.Test.YtklgecdklngekaaGreatDoorWBad1
namespace Go.Proofs.YtklgecdklngekaaGreatDoor.WCheck
set_option linter.unusedVariables false
set_option linter.unusedSimpArgs false
open Go.RowKit Go.Maps Go.Proofs.YtklgecdklngekaaGreatDoorW.PrintWords Go.Proofs.YtklgecdklngekaaGreatDoorW.PrintLast Go.Proofs.YtklgecdklngekaaGreatDoor.Q
set_option maxHeartbeats 2000000 in
set_option maxRecDepth 100000 in
theorem walk0 (W : World) : Calls Tryz.prog 102 #[.int .i64 0, .slice none 0 0] W fun e w' => e = .returned (.bool true) ∧ Below W.heap.size W w' := by
  go_enter Tryz.func102, Tryz.ntmps102
  go_wp2
  go_loopw [25] (fun v wr => v = .int .i64 0 ∧ Hid (Below W.heap.size W wr)) (fun _ _ => 0)
  case atStart => exact ⟨rfl, Below.refl _ _⟩
  case round =>
    obtain ⟨rfl, HB⟩ := hrel
    go_wp2
    go_loopw [36] (fun v wq => v = .int .i64 0 ∧ Hid (Below W.heap.size W wq)) (fun _ _ => 0)
    case atStart => exact ⟨rfl, HB.out⟩
    case round =>
      obtain ⟨rfl, HB2⟩ := hrel
      go_wp2
      go_ret
      exact ⟨rfl, HB2.out⟩
theorem right_in (xb : Nat) (A : Option Addr) (n ca : Nat) (W : World) (hx : ∃ r : List Value, W.heap[xb]? = some (.cells (([.string ⟨#[112]⟩, .int .i64 4, .int .i64 5, .int .i64 40] : List Value) ++ r).toArray 50 (0, 0)))
    (hr : ∀ W', Below W.heap.size W W' → Calls Tryz.prog 106 #[.agg #[.int .i64 4, .int .i64 5, .int .i64 40], .agg #[.string ⟨#[120]⟩, .slice A n ca]] W' fun e w' => e = .returned (.bool true) ∧ Below W'.heap.size W' w') :
    Calls Tryz.prog 105 #[.agg #[.string ⟨#[120]⟩, .slice A n ca], .pointer (some ⟨xb, 0, none⟩)] W fun e w' => e = .returned (.bool true) ∧ Below W.heap.size W w' := by
  obtain ⟨r, hx⟩ := hx
  have hu36 := Tryz.underlying36
  have hu39 := Tryz.underlying39
  have hx2 := blk_alloc hx (.cells #[.string ⟨#[120]⟩, .slice A n ca] 39)
  have g0 : (W.alloc (.cells #[.string ⟨#[120]⟩, .slice A n ca] 39)).cell? ⟨xb, 1, none⟩ = some (.int .i64 4) := (blk_cell hx2 1).trans rfl
  have g1 : (W.alloc (.cells #[.string ⟨#[120]⟩, .slice A n ca] 39)).cell? ⟨xb, 2, none⟩ = some (.int .i64 5) := (blk_cell hx2 2).trans rfl
  have g2 : (W.alloc (.cells #[.string ⟨#[120]⟩, .slice A n ca] 39)).cell? ⟨xb, 3, none⟩ = some (.int .i64 40) := (blk_cell hx2 3).trans rfl
  have Hr := Lib.hid hr
  clear hx hx2 hr
  go_enter Tryz.func105, Tryz.ntmps105
  go_wp2_with fail
  refine (Hr.out _ (below_alloc (Below.refl _ _) _)).mono ?_
  rintro e W3 ⟨rfl, hb3⟩
  go_wp2_with fail
  go_ret
  exact ⟨rfl, below_step (below_alloc (Below.refl _ _) _) hb3⟩
set_option maxHeartbeats 8000000 in
set_option maxRecDepth 100000 in
theorem check_c (pb c n ca : Nat) (A : Option Addr) (W : World) (h0 : ∀ W', Below W.heap.size W W' → W'.cell? ⟨pb, 0, none⟩ = some (.string ⟨#[120]⟩) ∧ W'.cell? ⟨pb, 1, none⟩ = some (.slice A n ca))
    (hr : ∀ W', Below W.heap.size W W' → Calls Tryz.prog 106 #[.agg #[.int .i64 4, .int .i64 5, .int .i64 40], .agg #[.string ⟨#[120]⟩, .slice A n ca]] W' fun e w' => e = .returned (.bool true) ∧ Below W'.heap.size W' w') :
    Calls Tryz.prog 63 #[.agg #[.string ⟨#[112]⟩, .int .i64 4, .int .i64 5, .int .i64 40, .slice none 0 0, .slice none 0 0, .slice (some ⟨pb, 0, none⟩) 1 c, .slice none 0 0, .slice none 0 0, .slice none 0 0, .slice none 0 0, .int .i64 0, .int .i64 0, .int .i64 0, .int .i64 0]] W fun e w' => e = .returned (.tuple #[.int .i64 0, .int .i64 0]) ∧ Below W.heap.size W w' := by
  have hu50 := Tryz.underlying50
  have hu36 := Tryz.underlying36
  have H0 := Lib.hid h0
  have Hr := Lib.hid hr
  clear h0 hr
  go_enter Tryz.func63, Tryz.ntmps63
  go_wp2_with fail
  have HX1 := Lib.hid (blk_new W (.cells #[.string ⟨#[112]⟩, .int .i64 4, .int .i64 5, .int .i64 40, .slice none 0 0, .slice none 0 0, .slice (some ⟨pb, 0, none⟩) 1 c, .slice none 0 0, .slice none 0 0, .slice none 0 0, .slice none 0 0, .int .i64 0, .int .i64 0, .int .i64 0, .int .i64 0] 50))
  have HB1 := Lib.hid (below_alloc (Below.refl W.heap.size W) (.cells #[.string ⟨#[112]⟩, .int .i64 4, .int .i64 5, .int .i64 40, .slice none 0 0, .slice none 0 0, .slice (some ⟨pb, 0, none⟩) 1 c, .slice none 0 0, .slice none 0 0, .slice none 0 0, .slice none 0 0, .int .i64 0, .int .i64 0, .int .i64 0, .int .i64 0] 50))
  generalize W.alloc (.cells #[.string ⟨#[112]⟩, .int .i64 4, .int .i64 5, .int .i64 40, .slice none 0 0, .slice none 0 0, .slice (some ⟨pb, 0, none⟩) 1 c, .slice none 0 0, .slice none 0 0, .slice none 0 0, .slice none 0 0, .int .i64 0, .int .i64 0, .int .i64 0, .int .i64 0] 50) = W1 at *
  refine (room_Name.calls _ true W1 (by kernel_rfl)).mono ?_
  rintro e W2 ⟨rfl, hd⟩
  have hb := hd.below
  clear hd
  have HX2 := Lib.hid (blk_below HX1.out hb)
  have HB2 := Lib.hid (below_step HB1.out hb)
  clear hb HX1 HB1
  have x0 : W2.cell? ⟨W.heap.size, 0, none⟩ = some (.string ⟨#[112]⟩) := (blk_cell HX2.out 0).trans rfl
  have x1 : W2.cell? ⟨W.heap.size, 1, none⟩ = some (.int .i64 4) := (blk_cell HX2.out 1).trans rfl
  have x2 : W2.cell? ⟨W.heap.size, 2, none⟩ = some (.int .i64 5) := (blk_cell HX2.out 2).trans rfl
  have x3 : W2.cell? ⟨W.heap.size, 3, none⟩ = some (.int .i64 40) := (blk_cell HX2.out 3).trans rfl
  have x4 : W2.cell? ⟨W.heap.size, 4, none⟩ = some (.slice none 0 0) := (blk_cell HX2.out 4).trans rfl
  have x5 : W2.cell? ⟨W.heap.size, 5, none⟩ = some (.slice none 0 0) := (blk_cell HX2.out 5).trans rfl
  have x6 : W2.cell? ⟨W.heap.size, 6, none⟩ = some (.slice (some ⟨pb, 0, none⟩) 1 c) := (blk_cell HX2.out 6).trans rfl
  have x7 : W2.cell? ⟨W.heap.size, 7, none⟩ = some (.slice none 0 0) := (blk_cell HX2.out 7).trans rfl
  have x8 : W2.cell? ⟨W.heap.size, 8, none⟩ = some (.slice none 0 0) := (blk_cell HX2.out 8).trans rfl
  have x9 : W2.cell? ⟨W.heap.size, 9, none⟩ = some (.slice none 0 0) := (blk_cell HX2.out 9).trans rfl
  have x10 : W2.cell? ⟨W.heap.size, 10, none⟩ = some (.slice none 0 0) := (blk_cell HX2.out 10).trans rfl
  have x11 : W2.cell? ⟨W.heap.size, 11, none⟩ = some (.int .i64 0) := (blk_cell HX2.out 11).trans rfl
  have x12 : W2.cell? ⟨W.heap.size, 12, none⟩ = some (.int .i64 0) := (blk_cell HX2.out 12).trans rfl
  have x13 : W2.cell? ⟨W.heap.size, 13, none⟩ = some (.int .i64 0) := (blk_cell HX2.out 13).trans rfl
  have x14 : W2.cell? ⟨W.heap.size, 14, none⟩ = some (.int .i64 0) := (blk_cell HX2.out 14).trans rfl
  go_wp2_with fail
  clear x0 x1 x2 x3 x4 x5 x6 x7 x8 x9 x10 x11 x12 x13 x14
  refine (when_RightGrid.calls 4 5 40 true W2 (by kernel_rfl)).mono ?_
  rintro e W3 ⟨rfl, hb⟩
  have HX3 := Lib.hid (blk_below HX2.out hb)
  have HB3 := Lib.hid (below_step HB2.out hb)
  clear hb HX2 HB2
  have x0 : W3.cell? ⟨W.heap.size, 0, none⟩ = some (.string ⟨#[112]⟩) := (blk_cell HX3.out 0).trans rfl
  have x1 : W3.cell? ⟨W.heap.size, 1, none⟩ = some (.int .i64 4) := (blk_cell HX3.out 1).trans rfl
  have x2 : W3.cell? ⟨W.heap.size, 2, none⟩ = some (.int .i64 5) := (blk_cell HX3.out 2).trans rfl
  have x3 : W3.cell? ⟨W.heap.size, 3, none⟩ = some (.int .i64 40) := (blk_cell HX3.out 3).trans rfl
  have x4 : W3.cell? ⟨W.heap.size, 4, none⟩ = some (.slice none 0 0) := (blk_cell HX3.out 4).trans rfl
  have x5 : W3.cell? ⟨W.heap.size, 5, none⟩ = some (.slice none 0 0) := (blk_cell HX3.out 5).trans rfl
  have x6 : W3.cell? ⟨W.heap.size, 6, none⟩ = some (.slice (some ⟨pb, 0, none⟩) 1 c) := (blk_cell HX3.out 6).trans rfl
  have x7 : W3.cell? ⟨W.heap.size, 7, none⟩ = some (.slice none 0 0) := (blk_cell HX3.out 7).trans rfl
  have x8 : W3.cell? ⟨W.heap.size, 8, none⟩ = some (.slice none 0 0) := (blk_cell HX3.out 8).trans rfl
  have x9 : W3.cell? ⟨W.heap.size, 9, none⟩ = some (.slice none 0 0) := (blk_cell HX3.out 9).trans rfl
  have x10 : W3.cell? ⟨W.heap.size, 10, none⟩ = some (.slice none 0 0) := (blk_cell HX3.out 10).trans rfl
  have x11 : W3.cell? ⟨W.heap.size, 11, none⟩ = some (.int .i64 0) := (blk_cell HX3.out 11).trans rfl
  have x12 : W3.cell? ⟨W.heap.size, 12, none⟩ = some (.int .i64 0) := (blk_cell HX3.out 12).trans rfl
  have x13 : W3.cell? ⟨W.heap.size, 13, none⟩ = some (.int .i64 0) := (blk_cell HX3.out 13).trans rfl
  have x14 : W3.cell? ⟨W.heap.size, 14, none⟩ = some (.int .i64 0) := (blk_cell HX3.out 14).trans rfl
  go_wp2_with fail
  clear x0 x1 x2 x3 x4 x5 x6 x7 x8 x9 x10 x11 x12 x13 x14
  refine (WBad.noneRoom _ _ _ _ _ W3).mono ?_
  rintro e W4 ⟨rfl, hb⟩
  have HX4 := Lib.hid (blk_below HX3.out hb)
  have HB4 := Lib.hid (below_step HB3.out hb)
  clear hb HX3 HB3
  have x0 : W4.cell? ⟨W.heap.size, 0, none⟩ = some (.string ⟨#[112]⟩) := (blk_cell HX4.out 0).trans rfl
  have x1 : W4.cell? ⟨W.heap.size, 1, none⟩ = some (.int .i64 4) := (blk_cell HX4.out 1).trans rfl
  have x2 : W4.cell? ⟨W.heap.size, 2, none⟩ = some (.int .i64 5) := (blk_cell HX4.out 2).trans rfl
  have x3 : W4.cell? ⟨W.heap.size, 3, none⟩ = some (.int .i64 40) := (blk_cell HX4.out 3).trans rfl
  have x4 : W4.cell? ⟨W.heap.size, 4, none⟩ = some (.slice none 0 0) := (blk_cell HX4.out 4).trans rfl
  have x5 : W4.cell? ⟨W.heap.size, 5, none⟩ = some (.slice none 0 0) := (blk_cell HX4.out 5).trans rfl
  have x6 : W4.cell? ⟨W.heap.size, 6, none⟩ = some (.slice (some ⟨pb, 0, none⟩) 1 c) := (blk_cell HX4.out 6).trans rfl
  have x7 : W4.cell? ⟨W.heap.size, 7, none⟩ = some (.slice none 0 0) := (blk_cell HX4.out 7).trans rfl
  have x8 : W4.cell? ⟨W.heap.size, 8, none⟩ = some (.slice none 0 0) := (blk_cell HX4.out 8).trans rfl
  have x9 : W4.cell? ⟨W.heap.size, 9, none⟩ = some (.slice none 0 0) := (blk_cell HX4.out 9).trans rfl
  have x10 : W4.cell? ⟨W.heap.size, 10, none⟩ = some (.slice none 0 0) := (blk_cell HX4.out 10).trans rfl
  have x11 : W4.cell? ⟨W.heap.size, 11, none⟩ = some (.int .i64 0) := (blk_cell HX4.out 11).trans rfl
  have x12 : W4.cell? ⟨W.heap.size, 12, none⟩ = some (.int .i64 0) := (blk_cell HX4.out 12).trans rfl
  have x13 : W4.cell? ⟨W.heap.size, 13, none⟩ = some (.int .i64 0) := (blk_cell HX4.out 13).trans rfl
  have x14 : W4.cell? ⟨W.heap.size, 14, none⟩ = some (.int .i64 0) := (blk_cell HX4.out 14).trans rfl
  go_wp2_with fail
  clear x0 x1 x2 x3 x4 x5 x6 x7 x8 x9 x10 x11 x12 x13 x14
  refine (walk0 W4).mono ?_
  rintro e W5 ⟨rfl, hb⟩
  have HX5 := Lib.hid (blk_below HX4.out hb)
  have HB5 := Lib.hid (below_step HB4.out hb)
  clear hb HX4 HB4
  have x0 : W5.cell? ⟨W.heap.size, 0, none⟩ = some (.string ⟨#[112]⟩) := (blk_cell HX5.out 0).trans rfl
  have x1 : W5.cell? ⟨W.heap.size, 1, none⟩ = some (.int .i64 4) := (blk_cell HX5.out 1).trans rfl
  have x2 : W5.cell? ⟨W.heap.size, 2, none⟩ = some (.int .i64 5) := (blk_cell HX5.out 2).trans rfl
  have x3 : W5.cell? ⟨W.heap.size, 3, none⟩ = some (.int .i64 40) := (blk_cell HX5.out 3).trans rfl
  have x4 : W5.cell? ⟨W.heap.size, 4, none⟩ = some (.slice none 0 0) := (blk_cell HX5.out 4).trans rfl
  have x5 : W5.cell? ⟨W.heap.size, 5, none⟩ = some (.slice none 0 0) := (blk_cell HX5.out 5).trans rfl
  have x6 : W5.cell? ⟨W.heap.size, 6, none⟩ = some (.slice (some ⟨pb, 0, none⟩) 1 c) := (blk_cell HX5.out 6).trans rfl
  have x7 : W5.cell? ⟨W.heap.size, 7, none⟩ = some (.slice none 0 0) := (blk_cell HX5.out 7).trans rfl
  have x8 : W5.cell? ⟨W.heap.size, 8, none⟩ = some (.slice none 0 0) := (blk_cell HX5.out 8).trans rfl
  have x9 : W5.cell? ⟨W.heap.size, 9, none⟩ = some (.slice none 0 0) := (blk_cell HX5.out 9).trans rfl
  have x10 : W5.cell? ⟨W.heap.size, 10, none⟩ = some (.slice none 0 0) := (blk_cell HX5.out 10).trans rfl
  have x11 : W5.cell? ⟨W.heap.size, 11, none⟩ = some (.int .i64 0) := (blk_cell HX5.out 11).trans rfl
  have x12 : W5.cell? ⟨W.heap.size, 12, none⟩ = some (.int .i64 0) := (blk_cell HX5.out 12).trans rfl
  have x13 : W5.cell? ⟨W.heap.size, 13, none⟩ = some (.int .i64 0) := (blk_cell HX5.out 13).trans rfl
  have x14 : W5.cell? ⟨W.heap.size, 14, none⟩ = some (.int .i64 0) := (blk_cell HX5.out 14).trans rfl
  go_wp2_with fail
  clear x0 x1 x2 x3 x4 x5 x6 x7 x8 x9 x10 x11 x12 x13 x14
  refine (WBad1.bad1 pb c n ca W.heap.size A W5 (fun W6 h => H0.out W6 (below_step HB5.out h)) (fun W6 h => right_in W.heap.size A n ca W6 ⟨_, blk_below HX5.out h⟩ (fun W7 h7 => Hr.out W7 (below_step (below_step HB5.out h) h7)))).mono ?_
  rintro e W6 ⟨rfl, hb⟩
  have HX6 := Lib.hid (blk_below HX5.out hb)
  have HB6 := Lib.hid (below_step HB5.out hb)
  clear hb HX5 HB5
  have x0 : W6.cell? ⟨W.heap.size, 0, none⟩ = some (.string ⟨#[112]⟩) := (blk_cell HX6.out 0).trans rfl
  have x1 : W6.cell? ⟨W.heap.size, 1, none⟩ = some (.int .i64 4) := (blk_cell HX6.out 1).trans rfl
  have x2 : W6.cell? ⟨W.heap.size, 2, none⟩ = some (.int .i64 5) := (blk_cell HX6.out 2).trans rfl
  have x3 : W6.cell? ⟨W.heap.size, 3, none⟩ = some (.int .i64 40) := (blk_cell HX6.out 3).trans rfl
  have x4 : W6.cell? ⟨W.heap.size, 4, none⟩ = some (.slice none 0 0) := (blk_cell HX6.out 4).trans rfl
  have x5 : W6.cell? ⟨W.heap.size, 5, none⟩ = some (.slice none 0 0) := (blk_cell HX6.out 5).trans rfl
  have x6 : W6.cell? ⟨W.heap.size, 6, none⟩ = some (.slice (some ⟨pb, 0, none⟩) 1 c) := (blk_cell HX6.out 6).trans rfl
  have x7 : W6.cell? ⟨W.heap.size, 7, none⟩ = some (.slice none 0 0) := (blk_cell HX6.out 7).trans rfl
  have x8 : W6.cell? ⟨W.heap.size, 8, none⟩ = some (.slice none 0 0) := (blk_cell HX6.out 8).trans rfl
  have x9 : W6.cell? ⟨W.heap.size, 9, none⟩ = some (.slice none 0 0) := (blk_cell HX6.out 9).trans rfl
  have x10 : W6.cell? ⟨W.heap.size, 10, none⟩ = some (.slice none 0 0) := (blk_cell HX6.out 10).trans rfl
  have x11 : W6.cell? ⟨W.heap.size, 11, none⟩ = some (.int .i64 0) := (blk_cell HX6.out 11).trans rfl
  have x12 : W6.cell? ⟨W.heap.size, 12, none⟩ = some (.int .i64 0) := (blk_cell HX6.out 12).trans rfl
  have x13 : W6.cell? ⟨W.heap.size, 13, none⟩ = some (.int .i64 0) := (blk_cell HX6.out 13).trans rfl
  have x14 : W6.cell? ⟨W.heap.size, 14, none⟩ = some (.int .i64 0) := (blk_cell HX6.out 14).trans rfl
  go_wp2_with fail
  clear x0 x1 x2 x3 x4 x5 x6 x7 x8 x9 x10 x11 x12 x13 x14
  refine (WBad.noneClass _ _ _ _ _ W6).mono ?_
  rintro e W7 ⟨rfl, hb⟩
  have HX7 := Lib.hid (blk_below HX6.out hb)
  have HB7 := Lib.hid (below_step HB6.out hb)
  clear hb HX6 HB6
  have x0 : W7.cell? ⟨W.heap.size, 0, none⟩ = some (.string ⟨#[112]⟩) := (blk_cell HX7.out 0).trans rfl
  have x1 : W7.cell? ⟨W.heap.size, 1, none⟩ = some (.int .i64 4) := (blk_cell HX7.out 1).trans rfl
  have x2 : W7.cell? ⟨W.heap.size, 2, none⟩ = some (.int .i64 5) := (blk_cell HX7.out 2).trans rfl
  have x3 : W7.cell? ⟨W.heap.size, 3, none⟩ = some (.int .i64 40) := (blk_cell HX7.out 3).trans rfl
  have x4 : W7.cell? ⟨W.heap.size, 4, none⟩ = some (.slice none 0 0) := (blk_cell HX7.out 4).trans rfl
  have x5 : W7.cell? ⟨W.heap.size, 5, none⟩ = some (.slice none 0 0) := (blk_cell HX7.out 5).trans rfl
  have x6 : W7.cell? ⟨W.heap.size, 6, none⟩ = some (.slice (some ⟨pb, 0, none⟩) 1 c) := (blk_cell HX7.out 6).trans rfl
  have x7 : W7.cell? ⟨W.heap.size, 7, none⟩ = some (.slice none 0 0) := (blk_cell HX7.out 7).trans rfl
  have x8 : W7.cell? ⟨W.heap.size, 8, none⟩ = some (.slice none 0 0) := (blk_cell HX7.out 8).trans rfl
  have x9 : W7.cell? ⟨W.heap.size, 9, none⟩ = some (.slice none 0 0) := (blk_cell HX7.out 9).trans rfl
  have x10 : W7.cell? ⟨W.heap.size, 10, none⟩ = some (.slice none 0 0) := (blk_cell HX7.out 10).trans rfl
  have x11 : W7.cell? ⟨W.heap.size, 11, none⟩ = some (.int .i64 0) := (blk_cell HX7.out 11).trans rfl
  have x12 : W7.cell? ⟨W.heap.size, 12, none⟩ = some (.int .i64 0) := (blk_cell HX7.out 12).trans rfl
  have x13 : W7.cell? ⟨W.heap.size, 13, none⟩ = some (.int .i64 0) := (blk_cell HX7.out 13).trans rfl
  have x14 : W7.cell? ⟨W.heap.size, 14, none⟩ = some (.int .i64 0) := (blk_cell HX7.out 14).trans rfl
  go_wp2_with fail
  clear x0 x1 x2 x3 x4 x5 x6 x7 x8 x9 x10 x11 x12 x13 x14
  refine (WBad.noneCourse _ _ _ _ _ W7).mono ?_
  rintro e W8 ⟨rfl, hb⟩
  have HX8 := Lib.hid (blk_below HX7.out hb)
  have HB8 := Lib.hid (below_step HB7.out hb)
  clear hb HX7 HB7
  have x0 : W8.cell? ⟨W.heap.size, 0, none⟩ = some (.string ⟨#[112]⟩) := (blk_cell HX8.out 0).trans rfl
  have x1 : W8.cell? ⟨W.heap.size, 1, none⟩ = some (.int .i64 4) := (blk_cell HX8.out 1).trans rfl
  have x2 : W8.cell? ⟨W.heap.size, 2, none⟩ = some (.int .i64 5) := (blk_cell HX8.out 2).trans rfl
  have x3 : W8.cell? ⟨W.heap.size, 3, none⟩ = some (.int .i64 40) := (blk_cell HX8.out 3).trans rfl
  have x4 : W8.cell? ⟨W.heap.size, 4, none⟩ = some (.slice none 0 0) := (blk_cell HX8.out 4).trans rfl
  have x5 : W8.cell? ⟨W.heap.size, 5, none⟩ = some (.slice none 0 0) := (blk_cell HX8.out 5).trans rfl
  have x6 : W8.cell? ⟨W.heap.size, 6, none⟩ = some (.slice (some ⟨pb, 0, none⟩) 1 c) := (blk_cell HX8.out 6).trans rfl
  have x7 : W8.cell? ⟨W.heap.size, 7, none⟩ = some (.slice none 0 0) := (blk_cell HX8.out 7).trans rfl
  have x8 : W8.cell? ⟨W.heap.size, 8, none⟩ = some (.slice none 0 0) := (blk_cell HX8.out 8).trans rfl
  have x9 : W8.cell? ⟨W.heap.size, 9, none⟩ = some (.slice none 0 0) := (blk_cell HX8.out 9).trans rfl
  have x10 : W8.cell? ⟨W.heap.size, 10, none⟩ = some (.slice none 0 0) := (blk_cell HX8.out 10).trans rfl
  have x11 : W8.cell? ⟨W.heap.size, 11, none⟩ = some (.int .i64 0) := (blk_cell HX8.out 11).trans rfl
  have x12 : W8.cell? ⟨W.heap.size, 12, none⟩ = some (.int .i64 0) := (blk_cell HX8.out 12).trans rfl
  have x13 : W8.cell? ⟨W.heap.size, 13, none⟩ = some (.int .i64 0) := (blk_cell HX8.out 13).trans rfl
  have x14 : W8.cell? ⟨W.heap.size, 14, none⟩ = some (.int .i64 0) := (blk_cell HX8.out 14).trans rfl
  go_wp2_with fail
  clear x0 x1 x2 x3 x4 x5 x6 x7 x8 x9 x10 x11 x12 x13 x14
  refine (WBad.noneStudent _ _ _ _ _ W8).mono ?_
  rintro e W9 ⟨rfl, hb⟩
  have HX9 := Lib.hid (blk_below HX8.out hb)
  have HB9 := Lib.hid (below_step HB8.out hb)
  clear hb HX8 HB8
  have x0 : W9.cell? ⟨W.heap.size, 0, none⟩ = some (.string ⟨#[112]⟩) := (blk_cell HX9.out 0).trans rfl
  have x1 : W9.cell? ⟨W.heap.size, 1, none⟩ = some (.int .i64 4) := (blk_cell HX9.out 1).trans rfl
  have x2 : W9.cell? ⟨W.heap.size, 2, none⟩ = some (.int .i64 5) := (blk_cell HX9.out 2).trans rfl
  have x3 : W9.cell? ⟨W.heap.size, 3, none⟩ = some (.int .i64 40) := (blk_cell HX9.out 3).trans rfl
  have x4 : W9.cell? ⟨W.heap.size, 4, none⟩ = some (.slice none 0 0) := (blk_cell HX9.out 4).trans rfl
  have x5 : W9.cell? ⟨W.heap.size, 5, none⟩ = some (.slice none 0 0) := (blk_cell HX9.out 5).trans rfl
  have x6 : W9.cell? ⟨W.heap.size, 6, none⟩ = some (.slice (some ⟨pb, 0, none⟩) 1 c) := (blk_cell HX9.out 6).trans rfl
  have x7 : W9.cell? ⟨W.heap.size, 7, none⟩ = some (.slice none 0 0) := (blk_cell HX9.out 7).trans rfl
  have x8 : W9.cell? ⟨W.heap.size, 8, none⟩ = some (.slice none 0 0) := (blk_cell HX9.out 8).trans rfl
  have x9 : W9.cell? ⟨W.heap.size, 9, none⟩ = some (.slice none 0 0) := (blk_cell HX9.out 9).trans rfl
  have x10 : W9.cell? ⟨W.heap.size, 10, none⟩ = some (.slice none 0 0) := (blk_cell HX9.out 10).trans rfl
  have x11 : W9.cell? ⟨W.heap.size, 11, none⟩ = some (.int .i64 0) := (blk_cell HX9.out 11).trans rfl
  have x12 : W9.cell? ⟨W.heap.size, 12, none⟩ = some (.int .i64 0) := (blk_cell HX9.out 12).trans rfl
  have x13 : W9.cell? ⟨W.heap.size, 13, none⟩ = some (.int .i64 0) := (blk_cell HX9.out 13).trans rfl
  have x14 : W9.cell? ⟨W.heap.size, 14, none⟩ = some (.int .i64 0) := (blk_cell HX9.out 14).trans rfl
  go_wp2_with fail
  clear x0 x1 x2 x3 x4 x5 x6 x7 x8 x9 x10 x11 x12 x13 x14
  refine (WBad.noneRule _ _ _ _ _ W9).mono ?_
  rintro e W10 ⟨rfl, hb⟩
  have HX10 := Lib.hid (blk_below HX9.out hb)
  have HB10 := Lib.hid (below_step HB9.out hb)
  clear hb HX9 HB9
  have x0 : W10.cell? ⟨W.heap.size, 0, none⟩ = some (.string ⟨#[112]⟩) := (blk_cell HX10.out 0).trans rfl
  have x1 : W10.cell? ⟨W.heap.size, 1, none⟩ = some (.int .i64 4) := (blk_cell HX10.out 1).trans rfl
  have x2 : W10.cell? ⟨W.heap.size, 2, none⟩ = some (.int .i64 5) := (blk_cell HX10.out 2).trans rfl
  have x3 : W10.cell? ⟨W.heap.size, 3, none⟩ = some (.int .i64 40) := (blk_cell HX10.out 3).trans rfl
  have x4 : W10.cell? ⟨W.heap.size, 4, none⟩ = some (.slice none 0 0) := (blk_cell HX10.out 4).trans rfl
  have x5 : W10.cell? ⟨W.heap.size, 5, none⟩ = some (.slice none 0 0) := (blk_cell HX10.out 5).trans rfl
  have x6 : W10.cell? ⟨W.heap.size, 6, none⟩ = some (.slice (some ⟨pb, 0, none⟩) 1 c) := (blk_cell HX10.out 6).trans rfl
  have x7 : W10.cell? ⟨W.heap.size, 7, none⟩ = some (.slice none 0 0) := (blk_cell HX10.out 7).trans rfl
  have x8 : W10.cell? ⟨W.heap.size, 8, none⟩ = some (.slice none 0 0) := (blk_cell HX10.out 8).trans rfl
  have x9 : W10.cell? ⟨W.heap.size, 9, none⟩ = some (.slice none 0 0) := (blk_cell HX10.out 9).trans rfl
  have x10 : W10.cell? ⟨W.heap.size, 10, none⟩ = some (.slice none 0 0) := (blk_cell HX10.out 10).trans rfl
  have x11 : W10.cell? ⟨W.heap.size, 11, none⟩ = some (.int .i64 0) := (blk_cell HX10.out 11).trans rfl
  have x12 : W10.cell? ⟨W.heap.size, 12, none⟩ = some (.int .i64 0) := (blk_cell HX10.out 12).trans rfl
  have x13 : W10.cell? ⟨W.heap.size, 13, none⟩ = some (.int .i64 0) := (blk_cell HX10.out 13).trans rfl
  have x14 : W10.cell? ⟨W.heap.size, 14, none⟩ = some (.int .i64 0) := (blk_cell HX10.out 14).trans rfl
  go_wp2_with go_in
  go_ret2
  exact ⟨rfl, below_step HB10.out (below_alloc (Below.refl _ _) _)⟩
theorem right_c (pb c n ca : Nat) (A : Option Addr) (W : World) (h0 : ∀ W', Below W.heap.size W W' → W'.cell? ⟨pb, 0, none⟩ = some (.string ⟨#[120]⟩) ∧ W'.cell? ⟨pb, 1, none⟩ = some (.slice A n ca))
    (hr : ∀ W', Below W.heap.size W W' → Calls Tryz.prog 106 #[.agg #[.int .i64 4, .int .i64 5, .int .i64 40], .agg #[.string ⟨#[120]⟩, .slice A n ca]] W' fun e w' => e = .returned (.bool true) ∧ Below W'.heap.size W' w') :
    Calls Tryz.prog 34 #[.agg #[.string ⟨#[112]⟩, .int .i64 4, .int .i64 5, .int .i64 40, .slice none 0 0, .slice none 0 0, .slice (some ⟨pb, 0, none⟩) 1 c, .slice none 0 0, .slice none 0 0, .slice none 0 0, .slice none 0 0, .int .i64 0, .int .i64 0, .int .i64 0, .int .i64 0]] W fun e w' => e = .returned (.bool true) ∧ Below W.heap.size W w' := by
  have hu50 := Tryz.underlying50
  have H0 := Lib.hid h0
  have Hr := Lib.hid hr
  clear h0 hr
  go_enter Tryz.func34, Tryz.ntmps34
  go_wp2_with fail
  refine (check_c pb c n ca A _ (fun W6 h => H0.out W6 (below_step (below_alloc (Below.refl _ _) _) h)) (fun W7 h => Hr.out W7 (below_step (below_alloc (Below.refl _ _) _) h))).mono ?_
  rintro e W3 ⟨rfl, hb⟩
  go_wp2_with fail
  go_ret
  exact ⟨rfl, below_step (below_alloc (Below.refl _ _) _) hb⟩
end Go.Proofs.YtklgecdklngekaaGreatDoor.WCheck
