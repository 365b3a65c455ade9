/- The chapter's example: heads answers true -/
import Derived.Test.YtklgecdklngekaaGreatDoorWTail
namespace Go.Proofs.YtklgecdklngekaaGreatDoor.WHeads
set_option linter.unusedVariables false
set_option linter.unusedSimpArgs false
open Go.RowKit Go.Proofs.YtklgecdklngekaaGreatDoorW.PrintWords Go.Proofs.YtklgecdklngekaaGreatDoorW.PrintLast Go.Proofs.YtklgecdklngekaaGreatDoor.Q Go.Proofs.YtklgecdklngekaaGreatDoor.WPers Go.Proofs.YtklgecdklngekaaGreatDoor.WExm Go.Proofs.YtklgecdklngekaaGreatDoor.WTail
set_option maxHeartbeats 16000000 in
set_option maxRecDepth 100000 in
theorem heads_c (W : World) : Calls Tryz.prog 5 #[] W fun e w' => e = .returned (.bool true) ∧ Below W.heap.size W w' := by
  have hu_0 := Tryz.underlying50
  have hu_1 := Tryz.underlying31
  have hu_2 := Tryz.underlying39
  have hu_3 := Tryz.underlying25
  have hu_4 := Tryz.underlying36
  go_enter Tryz.func5, Tryz.ntmps5
  go_wp2_with fail
  have HB0 := Lib.hid (blk_alloc (blk_alloc (blk_alloc (blk_alloc (blk_new W (.cells #[.int .u32 7, .int .u8 1, .int .i64 16, .int .i64 4] 25)) (.cells #[.int .i64 4, .int .i64 5, .int .i64 40] 36)) (.cells #[.string ⟨#[120]⟩, .slice none 0 0] 39)) (.cells #[.string ⟨#[112]⟩, .int .i64 4, .int .i64 5, .int .i64 40, .slice none 0 0, .slice none 0 0, .slice (some ⟨W.heap.size + 1 + 1, 0, none⟩) 1 1, .slice none 0 0, .slice none 0 0, .slice none 0 0, .slice none 0 0, .int .i64 0, .int .i64 0, .int .i64 0, .int .i64 0] 50)) (.cells #[.int .i64 1, .int .i64 0, .int .i64 0, .int .u32 7, .int .u8 1, .int .i64 16, .int .i64 4, .int .i64 0, .slice none 0 0, .int .i64 0, .int .i64 0, .bool false, .int .i64 0] 31))
  have hn1 := blk_new (W.alloc (.cells #[.int .u32 7, .int .u8 1, .int .i64 16, .int .i64 4] 25)) (.cells #[.int .i64 4, .int .i64 5, .int .i64 40] 36)
  rw [World.size_alloc] at hn1
  have HB1 := Lib.hid (blk_alloc (blk_alloc (blk_alloc (hn1) (.cells #[.string ⟨#[120]⟩, .slice none 0 0] 39)) (.cells #[.string ⟨#[112]⟩, .int .i64 4, .int .i64 5, .int .i64 40, .slice none 0 0, .slice none 0 0, .slice (some ⟨W.heap.size + 1 + 1, 0, none⟩) 1 1, .slice none 0 0, .slice none 0 0, .slice none 0 0, .slice none 0 0, .int .i64 0, .int .i64 0, .int .i64 0, .int .i64 0] 50)) (.cells #[.int .i64 1, .int .i64 0, .int .i64 0, .int .u32 7, .int .u8 1, .int .i64 16, .int .i64 4, .int .i64 0, .slice none 0 0, .int .i64 0, .int .i64 0, .bool false, .int .i64 0] 31))
  clear hn1
  have hn2 := blk_new ((W.alloc (.cells #[.int .u32 7, .int .u8 1, .int .i64 16, .int .i64 4] 25)).alloc (.cells #[.int .i64 4, .int .i64 5, .int .i64 40] 36)) (.cells #[.string ⟨#[120]⟩, .slice none 0 0] 39)
  rw [World.size_alloc, World.size_alloc] at hn2
  have HB2 := Lib.hid (blk_alloc (blk_alloc (hn2) (.cells #[.string ⟨#[112]⟩, .int .i64 4, .int .i64 5, .int .i64 40, .slice none 0 0, .slice none 0 0, .slice (some ⟨W.heap.size + 1 + 1, 0, none⟩) 1 1, .slice none 0 0, .slice none 0 0, .slice none 0 0, .slice none 0 0, .int .i64 0, .int .i64 0, .int .i64 0, .int .i64 0] 50)) (.cells #[.int .i64 1, .int .i64 0, .int .i64 0, .int .u32 7, .int .u8 1, .int .i64 16, .int .i64 4, .int .i64 0, .slice none 0 0, .int .i64 0, .int .i64 0, .bool false, .int .i64 0] 31))
  clear hn2
  have hn3 := blk_new (((W.alloc (.cells #[.int .u32 7, .int .u8 1, .int .i64 16, .int .i64 4] 25)).alloc (.cells #[.int .i64 4, .int .i64 5, .int .i64 40] 36)).alloc (.cells #[.string ⟨#[120]⟩, .slice none 0 0] 39)) (.cells #[.string ⟨#[112]⟩, .int .i64 4, .int .i64 5, .int .i64 40, .slice none 0 0, .slice none 0 0, .slice (some ⟨W.heap.size + 1 + 1, 0, none⟩) 1 1, .slice none 0 0, .slice none 0 0, .slice none 0 0, .slice none 0 0, .int .i64 0, .int .i64 0, .int .i64 0, .int .i64 0] 50)
  rw [World.size_alloc, World.size_alloc, World.size_alloc] at hn3
  have HB3 := Lib.hid (blk_alloc (hn3) (.cells #[.int .i64 1, .int .i64 0, .int .i64 0, .int .u32 7, .int .u8 1, .int .i64 16, .int .i64 4, .int .i64 0, .slice none 0 0, .int .i64 0, .int .i64 0, .bool false, .int .i64 0] 31))
  clear hn3
  have hn4 := blk_new ((((W.alloc (.cells #[.int .u32 7, .int .u8 1, .int .i64 16, .int .i64 4] 25)).alloc (.cells #[.int .i64 4, .int .i64 5, .int .i64 40] 36)).alloc (.cells #[.string ⟨#[120]⟩, .slice none 0 0] 39)).alloc (.cells #[.string ⟨#[112]⟩, .int .i64 4, .int .i64 5, .int .i64 40, .slice none 0 0, .slice none 0 0, .slice (some ⟨W.heap.size + 1 + 1, 0, none⟩) 1 1, .slice none 0 0, .slice none 0 0, .slice none 0 0, .slice none 0 0, .int .i64 0, .int .i64 0, .int .i64 0, .int .i64 0] 50)) (.cells #[.int .i64 1, .int .i64 0, .int .i64 0, .int .u32 7, .int .u8 1, .int .i64 16, .int .i64 4, .int .i64 0, .slice none 0 0, .int .i64 0, .int .i64 0, .bool false, .int .i64 0] 31)
  rw [World.size_alloc, World.size_alloc, World.size_alloc, World.size_alloc] at hn4
  have HB4 := Lib.hid (hn4)
  clear hn4
  have HBW := Lib.hid (below_alloc (below_alloc (below_alloc (below_alloc (below_alloc (Below.refl W.heap.size W) (.cells #[.int .u32 7, .int .u8 1, .int .i64 16, .int .i64 4] 25)) (.cells #[.int .i64 4, .int .i64 5, .int .i64 40] 36)) (.cells #[.string ⟨#[120]⟩, .slice none 0 0] 39)) (.cells #[.string ⟨#[112]⟩, .int .i64 4, .int .i64 5, .int .i64 40, .slice none 0 0, .slice none 0 0, .slice (some ⟨W.heap.size + 1 + 1, 0, none⟩) 1 1, .slice none 0 0, .slice none 0 0, .slice none 0 0, .slice none 0 0, .int .i64 0, .int .i64 0, .int .i64 0, .int .i64 0] 50)) (.cells #[.int .i64 1, .int .i64 0, .int .i64 0, .int .u32 7, .int .u8 1, .int .i64 16, .int .i64 4, .int .i64 0, .slice none 0 0, .int .i64 0, .int .i64 0, .bool false, .int .i64 0] 31))
  generalize ((((W.alloc (.cells #[.int .u32 7, .int .u8 1, .int .i64 16, .int .i64 4] 25)).alloc (.cells #[.int .i64 4, .int .i64 5, .int .i64 40] 36)).alloc (.cells #[.string ⟨#[120]⟩, .slice none 0 0] 39)).alloc (.cells #[.string ⟨#[112]⟩, .int .i64 4, .int .i64 5, .int .i64 40, .slice none 0 0, .slice none 0 0, .slice (some ⟨W.heap.size + 1 + 1, 0, none⟩) 1 1, .slice none 0 0, .slice none 0 0, .slice none 0 0, .slice none 0 0, .int .i64 0, .int .i64 0, .int .i64 0, .int .i64 0] 50)).alloc (.cells #[.int .i64 1, .int .i64 0, .int .i64 0, .int .u32 7, .int .u8 1, .int .i64 16, .int .i64 4, .int .i64 0, .slice none 0 0, .int .i64 0, .int .i64 0, .bool false, .int .i64 0] 31) = W1 at *
  have HT_W1 := Lib.hid HB0.out
  clear HB0
  have HG_W1 := Lib.hid HB1.out
  clear HB1
  have HN_W1 := Lib.hid HB2.out
  clear HB2
  have HP_W1 := Lib.hid HB3.out
  clear HB3
  have HX_W1 := Lib.hid HB4.out
  clear HB4
  have HB_W1 := Lib.hid HBW.out
  clear HBW
  have HV_W1 : Hid (Per W1 W.heap.size false (.slice (some ⟨W.heap.size + 1 + 1, 0, none⟩) 1 1)) := Lib.hid ⟨W.heap.size + 1 + 1, 1, .slice none 0 0, [], rfl, Nat.le_refl _, by omega, HN_W1.out, rfl⟩
  clear HN_W1
  refine (printL W1).mono ?_
  rintro e W2 ⟨rfl, hb⟩
  have HT_W2 := Lib.hid (blk_below HT_W1.out hb)
  have HG_W2 := Lib.hid (blk_below HG_W1.out hb)
  have HP_W2 := Lib.hid (blk_below HP_W1.out hb)
  have HX_W2 := Lib.hid (blk_below HX_W1.out hb)
  have HV_W2 := Lib.hid (HV_W1.out.below hb)
  have HB_W2 := Lib.hid (below_step HB_W1.out hb)
  clear HT_W1 HG_W1 HP_W1 HX_W1 HV_W1 HB_W1 hb
  have cG0 : W2.cell? ⟨W.heap.size + 1, 0, none⟩ = some (.int .i64 4) := (blk_cell HG_W2.out 0).trans rfl
  have cG1 : W2.cell? ⟨W.heap.size + 1, 1, none⟩ = some (.int .i64 5) := (blk_cell HG_W2.out 1).trans rfl
  have cG2 : W2.cell? ⟨W.heap.size + 1, 2, none⟩ = some (.int .i64 40) := (blk_cell HG_W2.out 2).trans rfl
  go_wp2_with fail
  clear cG0 cG1 cG2
  refine (parseL W2).mono ?_
  rintro e W3 ⟨rfl, hb⟩
  have HT_W3 := Lib.hid (blk_below HT_W2.out hb)
  have HG_W3 := Lib.hid (blk_below HG_W2.out hb)
  have HP_W3 := Lib.hid (blk_below HP_W2.out hb)
  have HX_W3 := Lib.hid (blk_below HX_W2.out hb)
  have HV_W3 := Lib.hid (HV_W2.out.below hb)
  have HB_W3 := Lib.hid (below_step HB_W2.out hb)
  clear HT_W2 HG_W2 HP_W2 HX_W2 HV_W2 HB_W2 hb
  have HT_a := Lib.hid (blk_alloc HT_W3.out (.cells #[.int .i64 1, .int .i64 0, .int .i64 0, .int .u32 7, .int .u8 1, .int .i64 16, .int .i64 4, .int .i64 0, .slice none 0 0, .int .i64 0, .int .i64 0, .bool false, .int .i64 0] 31))
  have HG_a := Lib.hid (blk_alloc HG_W3.out (.cells #[.int .i64 1, .int .i64 0, .int .i64 0, .int .u32 7, .int .u8 1, .int .i64 16, .int .i64 4, .int .i64 0, .slice none 0 0, .int .i64 0, .int .i64 0, .bool false, .int .i64 0] 31))
  have HP_a := Lib.hid (blk_alloc HP_W3.out (.cells #[.int .i64 1, .int .i64 0, .int .i64 0, .int .u32 7, .int .u8 1, .int .i64 16, .int .i64 4, .int .i64 0, .slice none 0 0, .int .i64 0, .int .i64 0, .bool false, .int .i64 0] 31))
  have HX_a := Lib.hid (blk_alloc HX_W3.out (.cells #[.int .i64 1, .int .i64 0, .int .i64 0, .int .u32 7, .int .u8 1, .int .i64 16, .int .i64 4, .int .i64 0, .slice none 0 0, .int .i64 0, .int .i64 0, .bool false, .int .i64 0] 31))
  have HY_a := Lib.hid (blk_new W3 (.cells #[.int .i64 1, .int .i64 0, .int .i64 0, .int .u32 7, .int .u8 1, .int .i64 16, .int .i64 4, .int .i64 0, .slice none 0 0, .int .i64 0, .int .i64 0, .bool false, .int .i64 0] 31))
  have cP0 : (W3.alloc (.cells #[.int .i64 1, .int .i64 0, .int .i64 0, .int .u32 7, .int .u8 1, .int .i64 16, .int .i64 4, .int .i64 0, .slice none 0 0, .int .i64 0, .int .i64 0, .bool false, .int .i64 0] 31)).cell? ⟨W.heap.size + 1 + 1 + 1, 0, none⟩ = some (.string ⟨#[112]⟩) := (blk_cell HP_a.out 0).trans rfl
  have cP1 : (W3.alloc (.cells #[.int .i64 1, .int .i64 0, .int .i64 0, .int .u32 7, .int .u8 1, .int .i64 16, .int .i64 4, .int .i64 0, .slice none 0 0, .int .i64 0, .int .i64 0, .bool false, .int .i64 0] 31)).cell? ⟨W.heap.size + 1 + 1 + 1, 1, none⟩ = some (.int .i64 4) := (blk_cell HP_a.out 1).trans rfl
  have cP2 : (W3.alloc (.cells #[.int .i64 1, .int .i64 0, .int .i64 0, .int .u32 7, .int .u8 1, .int .i64 16, .int .i64 4, .int .i64 0, .slice none 0 0, .int .i64 0, .int .i64 0, .bool false, .int .i64 0] 31)).cell? ⟨W.heap.size + 1 + 1 + 1, 2, none⟩ = some (.int .i64 5) := (blk_cell HP_a.out 2).trans rfl
  have cP3 : (W3.alloc (.cells #[.int .i64 1, .int .i64 0, .int .i64 0, .int .u32 7, .int .u8 1, .int .i64 16, .int .i64 4, .int .i64 0, .slice none 0 0, .int .i64 0, .int .i64 0, .bool false, .int .i64 0] 31)).cell? ⟨W.heap.size + 1 + 1 + 1, 3, none⟩ = some (.int .i64 40) := (blk_cell HP_a.out 3).trans rfl
  have cP4 : (W3.alloc (.cells #[.int .i64 1, .int .i64 0, .int .i64 0, .int .u32 7, .int .u8 1, .int .i64 16, .int .i64 4, .int .i64 0, .slice none 0 0, .int .i64 0, .int .i64 0, .bool false, .int .i64 0] 31)).cell? ⟨W.heap.size + 1 + 1 + 1, 4, none⟩ = some (.slice none 0 0) := (blk_cell HP_a.out 4).trans rfl
  have cP5 : (W3.alloc (.cells #[.int .i64 1, .int .i64 0, .int .i64 0, .int .u32 7, .int .u8 1, .int .i64 16, .int .i64 4, .int .i64 0, .slice none 0 0, .int .i64 0, .int .i64 0, .bool false, .int .i64 0] 31)).cell? ⟨W.heap.size + 1 + 1 + 1, 5, none⟩ = some (.slice none 0 0) := (blk_cell HP_a.out 5).trans rfl
  have cP6 : (W3.alloc (.cells #[.int .i64 1, .int .i64 0, .int .i64 0, .int .u32 7, .int .u8 1, .int .i64 16, .int .i64 4, .int .i64 0, .slice none 0 0, .int .i64 0, .int .i64 0, .bool false, .int .i64 0] 31)).cell? ⟨W.heap.size + 1 + 1 + 1, 6, none⟩ = some (.slice (some ⟨W.heap.size + 1 + 1, 0, none⟩) 1 1) := (blk_cell HP_a.out 6).trans rfl
  have cP7 : (W3.alloc (.cells #[.int .i64 1, .int .i64 0, .int .i64 0, .int .u32 7, .int .u8 1, .int .i64 16, .int .i64 4, .int .i64 0, .slice none 0 0, .int .i64 0, .int .i64 0, .bool false, .int .i64 0] 31)).cell? ⟨W.heap.size + 1 + 1 + 1, 7, none⟩ = some (.slice none 0 0) := (blk_cell HP_a.out 7).trans rfl
  have cP8 : (W3.alloc (.cells #[.int .i64 1, .int .i64 0, .int .i64 0, .int .u32 7, .int .u8 1, .int .i64 16, .int .i64 4, .int .i64 0, .slice none 0 0, .int .i64 0, .int .i64 0, .bool false, .int .i64 0] 31)).cell? ⟨W.heap.size + 1 + 1 + 1, 8, none⟩ = some (.slice none 0 0) := (blk_cell HP_a.out 8).trans rfl
  have cP9 : (W3.alloc (.cells #[.int .i64 1, .int .i64 0, .int .i64 0, .int .u32 7, .int .u8 1, .int .i64 16, .int .i64 4, .int .i64 0, .slice none 0 0, .int .i64 0, .int .i64 0, .bool false, .int .i64 0] 31)).cell? ⟨W.heap.size + 1 + 1 + 1, 9, none⟩ = some (.slice none 0 0) := (blk_cell HP_a.out 9).trans rfl
  have cP10 : (W3.alloc (.cells #[.int .i64 1, .int .i64 0, .int .i64 0, .int .u32 7, .int .u8 1, .int .i64 16, .int .i64 4, .int .i64 0, .slice none 0 0, .int .i64 0, .int .i64 0, .bool false, .int .i64 0] 31)).cell? ⟨W.heap.size + 1 + 1 + 1, 10, none⟩ = some (.slice none 0 0) := (blk_cell HP_a.out 10).trans rfl
  have cP11 : (W3.alloc (.cells #[.int .i64 1, .int .i64 0, .int .i64 0, .int .u32 7, .int .u8 1, .int .i64 16, .int .i64 4, .int .i64 0, .slice none 0 0, .int .i64 0, .int .i64 0, .bool false, .int .i64 0] 31)).cell? ⟨W.heap.size + 1 + 1 + 1, 11, none⟩ = some (.int .i64 0) := (blk_cell HP_a.out 11).trans rfl
  have cP12 : (W3.alloc (.cells #[.int .i64 1, .int .i64 0, .int .i64 0, .int .u32 7, .int .u8 1, .int .i64 16, .int .i64 4, .int .i64 0, .slice none 0 0, .int .i64 0, .int .i64 0, .bool false, .int .i64 0] 31)).cell? ⟨W.heap.size + 1 + 1 + 1, 12, none⟩ = some (.int .i64 0) := (blk_cell HP_a.out 12).trans rfl
  have cP13 : (W3.alloc (.cells #[.int .i64 1, .int .i64 0, .int .i64 0, .int .u32 7, .int .u8 1, .int .i64 16, .int .i64 4, .int .i64 0, .slice none 0 0, .int .i64 0, .int .i64 0, .bool false, .int .i64 0] 31)).cell? ⟨W.heap.size + 1 + 1 + 1, 13, none⟩ = some (.int .i64 0) := (blk_cell HP_a.out 13).trans rfl
  have cP14 : (W3.alloc (.cells #[.int .i64 1, .int .i64 0, .int .i64 0, .int .u32 7, .int .u8 1, .int .i64 16, .int .i64 4, .int .i64 0, .slice none 0 0, .int .i64 0, .int .i64 0, .bool false, .int .i64 0] 31)).cell? ⟨W.heap.size + 1 + 1 + 1, 14, none⟩ = some (.int .i64 0) := (blk_cell HP_a.out 14).trans rfl
  have cX0 : (W3.alloc (.cells #[.int .i64 1, .int .i64 0, .int .i64 0, .int .u32 7, .int .u8 1, .int .i64 16, .int .i64 4, .int .i64 0, .slice none 0 0, .int .i64 0, .int .i64 0, .bool false, .int .i64 0] 31)).cell? ⟨W.heap.size + 1 + 1 + 1 + 1, 0, none⟩ = some (.int .i64 1) := (blk_cell HX_a.out 0).trans rfl
  have cX1 : (W3.alloc (.cells #[.int .i64 1, .int .i64 0, .int .i64 0, .int .u32 7, .int .u8 1, .int .i64 16, .int .i64 4, .int .i64 0, .slice none 0 0, .int .i64 0, .int .i64 0, .bool false, .int .i64 0] 31)).cell? ⟨W.heap.size + 1 + 1 + 1 + 1, 1, none⟩ = some (.int .i64 0) := (blk_cell HX_a.out 1).trans rfl
  have cX2 : (W3.alloc (.cells #[.int .i64 1, .int .i64 0, .int .i64 0, .int .u32 7, .int .u8 1, .int .i64 16, .int .i64 4, .int .i64 0, .slice none 0 0, .int .i64 0, .int .i64 0, .bool false, .int .i64 0] 31)).cell? ⟨W.heap.size + 1 + 1 + 1 + 1, 2, none⟩ = some (.int .i64 0) := (blk_cell HX_a.out 2).trans rfl
  have cX3 : (W3.alloc (.cells #[.int .i64 1, .int .i64 0, .int .i64 0, .int .u32 7, .int .u8 1, .int .i64 16, .int .i64 4, .int .i64 0, .slice none 0 0, .int .i64 0, .int .i64 0, .bool false, .int .i64 0] 31)).cell? ⟨W.heap.size + 1 + 1 + 1 + 1, 3, none⟩ = some (.int .u32 7) := (blk_cell HX_a.out 3).trans rfl
  have cX4 : (W3.alloc (.cells #[.int .i64 1, .int .i64 0, .int .i64 0, .int .u32 7, .int .u8 1, .int .i64 16, .int .i64 4, .int .i64 0, .slice none 0 0, .int .i64 0, .int .i64 0, .bool false, .int .i64 0] 31)).cell? ⟨W.heap.size + 1 + 1 + 1 + 1, 4, none⟩ = some (.int .u8 1) := (blk_cell HX_a.out 4).trans rfl
  have cX5 : (W3.alloc (.cells #[.int .i64 1, .int .i64 0, .int .i64 0, .int .u32 7, .int .u8 1, .int .i64 16, .int .i64 4, .int .i64 0, .slice none 0 0, .int .i64 0, .int .i64 0, .bool false, .int .i64 0] 31)).cell? ⟨W.heap.size + 1 + 1 + 1 + 1, 5, none⟩ = some (.int .i64 16) := (blk_cell HX_a.out 5).trans rfl
  have cX6 : (W3.alloc (.cells #[.int .i64 1, .int .i64 0, .int .i64 0, .int .u32 7, .int .u8 1, .int .i64 16, .int .i64 4, .int .i64 0, .slice none 0 0, .int .i64 0, .int .i64 0, .bool false, .int .i64 0] 31)).cell? ⟨W.heap.size + 1 + 1 + 1 + 1, 6, none⟩ = some (.int .i64 4) := (blk_cell HX_a.out 6).trans rfl
  have cX7 : (W3.alloc (.cells #[.int .i64 1, .int .i64 0, .int .i64 0, .int .u32 7, .int .u8 1, .int .i64 16, .int .i64 4, .int .i64 0, .slice none 0 0, .int .i64 0, .int .i64 0, .bool false, .int .i64 0] 31)).cell? ⟨W.heap.size + 1 + 1 + 1 + 1, 7, none⟩ = some (.int .i64 0) := (blk_cell HX_a.out 7).trans rfl
  have cX8 : (W3.alloc (.cells #[.int .i64 1, .int .i64 0, .int .i64 0, .int .u32 7, .int .u8 1, .int .i64 16, .int .i64 4, .int .i64 0, .slice none 0 0, .int .i64 0, .int .i64 0, .bool false, .int .i64 0] 31)).cell? ⟨W.heap.size + 1 + 1 + 1 + 1, 8, none⟩ = some (.slice none 0 0) := (blk_cell HX_a.out 8).trans rfl
  have cX9 : (W3.alloc (.cells #[.int .i64 1, .int .i64 0, .int .i64 0, .int .u32 7, .int .u8 1, .int .i64 16, .int .i64 4, .int .i64 0, .slice none 0 0, .int .i64 0, .int .i64 0, .bool false, .int .i64 0] 31)).cell? ⟨W.heap.size + 1 + 1 + 1 + 1, 9, none⟩ = some (.int .i64 0) := (blk_cell HX_a.out 9).trans rfl
  have cX10 : (W3.alloc (.cells #[.int .i64 1, .int .i64 0, .int .i64 0, .int .u32 7, .int .u8 1, .int .i64 16, .int .i64 4, .int .i64 0, .slice none 0 0, .int .i64 0, .int .i64 0, .bool false, .int .i64 0] 31)).cell? ⟨W.heap.size + 1 + 1 + 1 + 1, 10, none⟩ = some (.int .i64 0) := (blk_cell HX_a.out 10).trans rfl
  have cX11 : (W3.alloc (.cells #[.int .i64 1, .int .i64 0, .int .i64 0, .int .u32 7, .int .u8 1, .int .i64 16, .int .i64 4, .int .i64 0, .slice none 0 0, .int .i64 0, .int .i64 0, .bool false, .int .i64 0] 31)).cell? ⟨W.heap.size + 1 + 1 + 1 + 1, 11, none⟩ = some (.bool false) := (blk_cell HX_a.out 11).trans rfl
  have cX12 : (W3.alloc (.cells #[.int .i64 1, .int .i64 0, .int .i64 0, .int .u32 7, .int .u8 1, .int .i64 16, .int .i64 4, .int .i64 0, .slice none 0 0, .int .i64 0, .int .i64 0, .bool false, .int .i64 0] 31)).cell? ⟨W.heap.size + 1 + 1 + 1 + 1, 12, none⟩ = some (.int .i64 0) := (blk_cell HX_a.out 12).trans rfl
  have HV_a := Lib.hid (HV_W3.out.below (below_alloc (Below.refl W3.heap.size W3) (.cells #[.int .i64 1, .int .i64 0, .int .i64 0, .int .u32 7, .int .u8 1, .int .i64 16, .int .i64 4, .int .i64 0, .slice none 0 0, .int .i64 0, .int .i64 0, .bool false, .int .i64 0] 31)))
  have HB_a := Lib.hid (below_alloc HB_W3.out (.cells #[.int .i64 1, .int .i64 0, .int .i64 0, .int .u32 7, .int .u8 1, .int .i64 16, .int .i64 4, .int .i64 0, .slice none 0 0, .int .i64 0, .int .i64 0, .bool false, .int .i64 0] 31))
  clear HT_W3 HG_W3 HP_W3 HX_W3 HV_W3 HB_W3
  go_wp2_with fail
  clear cP0 cP1 cP2 cP3 cP4 cP5 cP6 cP7 cP8 cP9 cP10 cP11 cP12 cP13 cP14 cX0 cX1 cX2 cX3 cX4 cX5 cX6 cX7 cX8 cX9 cX10 cX11 cX12
  generalize W3.alloc (.cells #[.int .i64 1, .int .i64 0, .int .i64 0, .int .u32 7, .int .u8 1, .int .i64 16, .int .i64 4, .int .i64 0, .slice none 0 0, .int .i64 0, .int .i64 0, .bool false, .int .i64 0] 31) = W4 at *
  have HT_W4 := Lib.hid HT_a.out
  have HG_W4 := Lib.hid HG_a.out
  have HP_W4 := Lib.hid HP_a.out
  have HX_W4 := Lib.hid HX_a.out
  have HY_W4 := Lib.hid HY_a.out
  have HV_W4 := Lib.hid HV_a.out
  have HB_W4 := Lib.hid HB_a.out
  clear HB_a HT_a HG_a HP_a HX_a HY_a HV_a
  generalize W3.heap.size = yb at *
  refine (WDo1.do1 W4 W.heap.size _ HV_W4.out).mono ?_
  rintro e W5 ⟨vq, rfl, hq, hb⟩
  have HQV_W5 := Lib.hid hq
  obtain ⟨nb, c2, a2, rest2, rfl, hc2, _, hn2, ht2⟩ := hq
  obtain ⟨tb, c3, r3, rfl, hc3, _, hwb⟩ := ht2
  have HN_W5 := Lib.hid hn2
  clear hn2 hwb
  have HT_W5 := Lib.hid (blk_below HT_W4.out hb)
  have HG_W5 := Lib.hid (blk_below HG_W4.out hb)
  have HP_W5 := Lib.hid (blk_below HP_W4.out hb)
  have HX_W5 := Lib.hid (blk_below HX_W4.out hb)
  have HY_W5 := Lib.hid (blk_below HY_W4.out hb)
  have HV_W5 := Lib.hid (HV_W4.out.below hb)
  have HB_W5 := Lib.hid (below_step HB_W4.out hb)
  clear HT_W4 HG_W4 HP_W4 HX_W4 HY_W4 HV_W4 HB_W4 hb
  unfold prob
  have HT_a := Lib.hid (blk_alloc HT_W5.out (.cells #[.string ⟨#[112]⟩, .int .i64 4, .int .i64 5, .int .i64 40, .slice none 0 0, .slice none 0 0, .slice (some ⟨nb, 0, none⟩) 1 c2, .slice none 0 0, .slice none 0 0, .slice none 0 0, .slice none 0 0, .int .i64 0, .int .i64 0, .int .i64 0, .int .i64 0] 50))
  have HG_a := Lib.hid (blk_alloc HG_W5.out (.cells #[.string ⟨#[112]⟩, .int .i64 4, .int .i64 5, .int .i64 40, .slice none 0 0, .slice none 0 0, .slice (some ⟨nb, 0, none⟩) 1 c2, .slice none 0 0, .slice none 0 0, .slice none 0 0, .slice none 0 0, .int .i64 0, .int .i64 0, .int .i64 0, .int .i64 0] 50))
  have HP_a := Lib.hid (blk_alloc HP_W5.out (.cells #[.string ⟨#[112]⟩, .int .i64 4, .int .i64 5, .int .i64 40, .slice none 0 0, .slice none 0 0, .slice (some ⟨nb, 0, none⟩) 1 c2, .slice none 0 0, .slice none 0 0, .slice none 0 0, .slice none 0 0, .int .i64 0, .int .i64 0, .int .i64 0, .int .i64 0] 50))
  have HX_a := Lib.hid (blk_alloc HX_W5.out (.cells #[.string ⟨#[112]⟩, .int .i64 4, .int .i64 5, .int .i64 40, .slice none 0 0, .slice none 0 0, .slice (some ⟨nb, 0, none⟩) 1 c2, .slice none 0 0, .slice none 0 0, .slice none 0 0, .slice none 0 0, .int .i64 0, .int .i64 0, .int .i64 0, .int .i64 0] 50))
  have HY_a := Lib.hid (blk_alloc HY_W5.out (.cells #[.string ⟨#[112]⟩, .int .i64 4, .int .i64 5, .int .i64 40, .slice none 0 0, .slice none 0 0, .slice (some ⟨nb, 0, none⟩) 1 c2, .slice none 0 0, .slice none 0 0, .slice none 0 0, .slice none 0 0, .int .i64 0, .int .i64 0, .int .i64 0, .int .i64 0] 50))
  have HN_a := Lib.hid (blk_alloc HN_W5.out (.cells #[.string ⟨#[112]⟩, .int .i64 4, .int .i64 5, .int .i64 40, .slice none 0 0, .slice none 0 0, .slice (some ⟨nb, 0, none⟩) 1 c2, .slice none 0 0, .slice none 0 0, .slice none 0 0, .slice none 0 0, .int .i64 0, .int .i64 0, .int .i64 0, .int .i64 0] 50))
  have HQ_a := Lib.hid (blk_new W5 (.cells #[.string ⟨#[112]⟩, .int .i64 4, .int .i64 5, .int .i64 40, .slice none 0 0, .slice none 0 0, .slice (some ⟨nb, 0, none⟩) 1 c2, .slice none 0 0, .slice none 0 0, .slice none 0 0, .slice none 0 0, .int .i64 0, .int .i64 0, .int .i64 0, .int .i64 0] 50))
  have cP0 : (W5.alloc (.cells #[.string ⟨#[112]⟩, .int .i64 4, .int .i64 5, .int .i64 40, .slice none 0 0, .slice none 0 0, .slice (some ⟨nb, 0, none⟩) 1 c2, .slice none 0 0, .slice none 0 0, .slice none 0 0, .slice none 0 0, .int .i64 0, .int .i64 0, .int .i64 0, .int .i64 0] 50)).cell? ⟨W.heap.size + 1 + 1 + 1, 0, none⟩ = some (.string ⟨#[112]⟩) := (blk_cell HP_a.out 0).trans rfl
  have cP1 : (W5.alloc (.cells #[.string ⟨#[112]⟩, .int .i64 4, .int .i64 5, .int .i64 40, .slice none 0 0, .slice none 0 0, .slice (some ⟨nb, 0, none⟩) 1 c2, .slice none 0 0, .slice none 0 0, .slice none 0 0, .slice none 0 0, .int .i64 0, .int .i64 0, .int .i64 0, .int .i64 0] 50)).cell? ⟨W.heap.size + 1 + 1 + 1, 1, none⟩ = some (.int .i64 4) := (blk_cell HP_a.out 1).trans rfl
  have cP2 : (W5.alloc (.cells #[.string ⟨#[112]⟩, .int .i64 4, .int .i64 5, .int .i64 40, .slice none 0 0, .slice none 0 0, .slice (some ⟨nb, 0, none⟩) 1 c2, .slice none 0 0, .slice none 0 0, .slice none 0 0, .slice none 0 0, .int .i64 0, .int .i64 0, .int .i64 0, .int .i64 0] 50)).cell? ⟨W.heap.size + 1 + 1 + 1, 2, none⟩ = some (.int .i64 5) := (blk_cell HP_a.out 2).trans rfl
  have cP3 : (W5.alloc (.cells #[.string ⟨#[112]⟩, .int .i64 4, .int .i64 5, .int .i64 40, .slice none 0 0, .slice none 0 0, .slice (some ⟨nb, 0, none⟩) 1 c2, .slice none 0 0, .slice none 0 0, .slice none 0 0, .slice none 0 0, .int .i64 0, .int .i64 0, .int .i64 0, .int .i64 0] 50)).cell? ⟨W.heap.size + 1 + 1 + 1, 3, none⟩ = some (.int .i64 40) := (blk_cell HP_a.out 3).trans rfl
  have cP4 : (W5.alloc (.cells #[.string ⟨#[112]⟩, .int .i64 4, .int .i64 5, .int .i64 40, .slice none 0 0, .slice none 0 0, .slice (some ⟨nb, 0, none⟩) 1 c2, .slice none 0 0, .slice none 0 0, .slice none 0 0, .slice none 0 0, .int .i64 0, .int .i64 0, .int .i64 0, .int .i64 0] 50)).cell? ⟨W.heap.size + 1 + 1 + 1, 4, none⟩ = some (.slice none 0 0) := (blk_cell HP_a.out 4).trans rfl
  have cP5 : (W5.alloc (.cells #[.string ⟨#[112]⟩, .int .i64 4, .int .i64 5, .int .i64 40, .slice none 0 0, .slice none 0 0, .slice (some ⟨nb, 0, none⟩) 1 c2, .slice none 0 0, .slice none 0 0, .slice none 0 0, .slice none 0 0, .int .i64 0, .int .i64 0, .int .i64 0, .int .i64 0] 50)).cell? ⟨W.heap.size + 1 + 1 + 1, 5, none⟩ = some (.slice none 0 0) := (blk_cell HP_a.out 5).trans rfl
  have cP6 : (W5.alloc (.cells #[.string ⟨#[112]⟩, .int .i64 4, .int .i64 5, .int .i64 40, .slice none 0 0, .slice none 0 0, .slice (some ⟨nb, 0, none⟩) 1 c2, .slice none 0 0, .slice none 0 0, .slice none 0 0, .slice none 0 0, .int .i64 0, .int .i64 0, .int .i64 0, .int .i64 0] 50)).cell? ⟨W.heap.size + 1 + 1 + 1, 6, none⟩ = some (.slice (some ⟨W.heap.size + 1 + 1, 0, none⟩) 1 1) := (blk_cell HP_a.out 6).trans rfl
  have cP7 : (W5.alloc (.cells #[.string ⟨#[112]⟩, .int .i64 4, .int .i64 5, .int .i64 40, .slice none 0 0, .slice none 0 0, .slice (some ⟨nb, 0, none⟩) 1 c2, .slice none 0 0, .slice none 0 0, .slice none 0 0, .slice none 0 0, .int .i64 0, .int .i64 0, .int .i64 0, .int .i64 0] 50)).cell? ⟨W.heap.size + 1 + 1 + 1, 7, none⟩ = some (.slice none 0 0) := (blk_cell HP_a.out 7).trans rfl
  have cP8 : (W5.alloc (.cells #[.string ⟨#[112]⟩, .int .i64 4, .int .i64 5, .int .i64 40, .slice none 0 0, .slice none 0 0, .slice (some ⟨nb, 0, none⟩) 1 c2, .slice none 0 0, .slice none 0 0, .slice none 0 0, .slice none 0 0, .int .i64 0, .int .i64 0, .int .i64 0, .int .i64 0] 50)).cell? ⟨W.heap.size + 1 + 1 + 1, 8, none⟩ = some (.slice none 0 0) := (blk_cell HP_a.out 8).trans rfl
  have cP9 : (W5.alloc (.cells #[.string ⟨#[112]⟩, .int .i64 4, .int .i64 5, .int .i64 40, .slice none 0 0, .slice none 0 0, .slice (some ⟨nb, 0, none⟩) 1 c2, .slice none 0 0, .slice none 0 0, .slice none 0 0, .slice none 0 0, .int .i64 0, .int .i64 0, .int .i64 0, .int .i64 0] 50)).cell? ⟨W.heap.size + 1 + 1 + 1, 9, none⟩ = some (.slice none 0 0) := (blk_cell HP_a.out 9).trans rfl
  have cP10 : (W5.alloc (.cells #[.string ⟨#[112]⟩, .int .i64 4, .int .i64 5, .int .i64 40, .slice none 0 0, .slice none 0 0, .slice (some ⟨nb, 0, none⟩) 1 c2, .slice none 0 0, .slice none 0 0, .slice none 0 0, .slice none 0 0, .int .i64 0, .int .i64 0, .int .i64 0, .int .i64 0] 50)).cell? ⟨W.heap.size + 1 + 1 + 1, 10, none⟩ = some (.slice none 0 0) := (blk_cell HP_a.out 10).trans rfl
  have cP11 : (W5.alloc (.cells #[.string ⟨#[112]⟩, .int .i64 4, .int .i64 5, .int .i64 40, .slice none 0 0, .slice none 0 0, .slice (some ⟨nb, 0, none⟩) 1 c2, .slice none 0 0, .slice none 0 0, .slice none 0 0, .slice none 0 0, .int .i64 0, .int .i64 0, .int .i64 0, .int .i64 0] 50)).cell? ⟨W.heap.size + 1 + 1 + 1, 11, none⟩ = some (.int .i64 0) := (blk_cell HP_a.out 11).trans rfl
  have cP12 : (W5.alloc (.cells #[.string ⟨#[112]⟩, .int .i64 4, .int .i64 5, .int .i64 40, .slice none 0 0, .slice none 0 0, .slice (some ⟨nb, 0, none⟩) 1 c2, .slice none 0 0, .slice none 0 0, .slice none 0 0, .slice none 0 0, .int .i64 0, .int .i64 0, .int .i64 0, .int .i64 0] 50)).cell? ⟨W.heap.size + 1 + 1 + 1, 12, none⟩ = some (.int .i64 0) := (blk_cell HP_a.out 12).trans rfl
  have cP13 : (W5.alloc (.cells #[.string ⟨#[112]⟩, .int .i64 4, .int .i64 5, .int .i64 40, .slice none 0 0, .slice none 0 0, .slice (some ⟨nb, 0, none⟩) 1 c2, .slice none 0 0, .slice none 0 0, .slice none 0 0, .slice none 0 0, .int .i64 0, .int .i64 0, .int .i64 0, .int .i64 0] 50)).cell? ⟨W.heap.size + 1 + 1 + 1, 13, none⟩ = some (.int .i64 0) := (blk_cell HP_a.out 13).trans rfl
  have cP14 : (W5.alloc (.cells #[.string ⟨#[112]⟩, .int .i64 4, .int .i64 5, .int .i64 40, .slice none 0 0, .slice none 0 0, .slice (some ⟨nb, 0, none⟩) 1 c2, .slice none 0 0, .slice none 0 0, .slice none 0 0, .slice none 0 0, .int .i64 0, .int .i64 0, .int .i64 0, .int .i64 0] 50)).cell? ⟨W.heap.size + 1 + 1 + 1, 14, none⟩ = some (.int .i64 0) := (blk_cell HP_a.out 14).trans rfl
  have cX0 : (W5.alloc (.cells #[.string ⟨#[112]⟩, .int .i64 4, .int .i64 5, .int .i64 40, .slice none 0 0, .slice none 0 0, .slice (some ⟨nb, 0, none⟩) 1 c2, .slice none 0 0, .slice none 0 0, .slice none 0 0, .slice none 0 0, .int .i64 0, .int .i64 0, .int .i64 0, .int .i64 0] 50)).cell? ⟨W.heap.size + 1 + 1 + 1 + 1, 0, none⟩ = some (.int .i64 1) := (blk_cell HX_a.out 0).trans rfl
  have cX1 : (W5.alloc (.cells #[.string ⟨#[112]⟩, .int .i64 4, .int .i64 5, .int .i64 40, .slice none 0 0, .slice none 0 0, .slice (some ⟨nb, 0, none⟩) 1 c2, .slice none 0 0, .slice none 0 0, .slice none 0 0, .slice none 0 0, .int .i64 0, .int .i64 0, .int .i64 0, .int .i64 0] 50)).cell? ⟨W.heap.size + 1 + 1 + 1 + 1, 1, none⟩ = some (.int .i64 0) := (blk_cell HX_a.out 1).trans rfl
  have cX2 : (W5.alloc (.cells #[.string ⟨#[112]⟩, .int .i64 4, .int .i64 5, .int .i64 40, .slice none 0 0, .slice none 0 0, .slice (some ⟨nb, 0, none⟩) 1 c2, .slice none 0 0, .slice none 0 0, .slice none 0 0, .slice none 0 0, .int .i64 0, .int .i64 0, .int .i64 0, .int .i64 0] 50)).cell? ⟨W.heap.size + 1 + 1 + 1 + 1, 2, none⟩ = some (.int .i64 0) := (blk_cell HX_a.out 2).trans rfl
  have cX3 : (W5.alloc (.cells #[.string ⟨#[112]⟩, .int .i64 4, .int .i64 5, .int .i64 40, .slice none 0 0, .slice none 0 0, .slice (some ⟨nb, 0, none⟩) 1 c2, .slice none 0 0, .slice none 0 0, .slice none 0 0, .slice none 0 0, .int .i64 0, .int .i64 0, .int .i64 0, .int .i64 0] 50)).cell? ⟨W.heap.size + 1 + 1 + 1 + 1, 3, none⟩ = some (.int .u32 7) := (blk_cell HX_a.out 3).trans rfl
  have cX4 : (W5.alloc (.cells #[.string ⟨#[112]⟩, .int .i64 4, .int .i64 5, .int .i64 40, .slice none 0 0, .slice none 0 0, .slice (some ⟨nb, 0, none⟩) 1 c2, .slice none 0 0, .slice none 0 0, .slice none 0 0, .slice none 0 0, .int .i64 0, .int .i64 0, .int .i64 0, .int .i64 0] 50)).cell? ⟨W.heap.size + 1 + 1 + 1 + 1, 4, none⟩ = some (.int .u8 1) := (blk_cell HX_a.out 4).trans rfl
  have cX5 : (W5.alloc (.cells #[.string ⟨#[112]⟩, .int .i64 4, .int .i64 5, .int .i64 40, .slice none 0 0, .slice none 0 0, .slice (some ⟨nb, 0, none⟩) 1 c2, .slice none 0 0, .slice none 0 0, .slice none 0 0, .slice none 0 0, .int .i64 0, .int .i64 0, .int .i64 0, .int .i64 0] 50)).cell? ⟨W.heap.size + 1 + 1 + 1 + 1, 5, none⟩ = some (.int .i64 16) := (blk_cell HX_a.out 5).trans rfl
  have cX6 : (W5.alloc (.cells #[.string ⟨#[112]⟩, .int .i64 4, .int .i64 5, .int .i64 40, .slice none 0 0, .slice none 0 0, .slice (some ⟨nb, 0, none⟩) 1 c2, .slice none 0 0, .slice none 0 0, .slice none 0 0, .slice none 0 0, .int .i64 0, .int .i64 0, .int .i64 0, .int .i64 0] 50)).cell? ⟨W.heap.size + 1 + 1 + 1 + 1, 6, none⟩ = some (.int .i64 4) := (blk_cell HX_a.out 6).trans rfl
  have cX7 : (W5.alloc (.cells #[.string ⟨#[112]⟩, .int .i64 4, .int .i64 5, .int .i64 40, .slice none 0 0, .slice none 0 0, .slice (some ⟨nb, 0, none⟩) 1 c2, .slice none 0 0, .slice none 0 0, .slice none 0 0, .slice none 0 0, .int .i64 0, .int .i64 0, .int .i64 0, .int .i64 0] 50)).cell? ⟨W.heap.size + 1 + 1 + 1 + 1, 7, none⟩ = some (.int .i64 0) := (blk_cell HX_a.out 7).trans rfl
  have cX8 : (W5.alloc (.cells #[.string ⟨#[112]⟩, .int .i64 4, .int .i64 5, .int .i64 40, .slice none 0 0, .slice none 0 0, .slice (some ⟨nb, 0, none⟩) 1 c2, .slice none 0 0, .slice none 0 0, .slice none 0 0, .slice none 0 0, .int .i64 0, .int .i64 0, .int .i64 0, .int .i64 0] 50)).cell? ⟨W.heap.size + 1 + 1 + 1 + 1, 8, none⟩ = some (.slice none 0 0) := (blk_cell HX_a.out 8).trans rfl
  have cX9 : (W5.alloc (.cells #[.string ⟨#[112]⟩, .int .i64 4, .int .i64 5, .int .i64 40, .slice none 0 0, .slice none 0 0, .slice (some ⟨nb, 0, none⟩) 1 c2, .slice none 0 0, .slice none 0 0, .slice none 0 0, .slice none 0 0, .int .i64 0, .int .i64 0, .int .i64 0, .int .i64 0] 50)).cell? ⟨W.heap.size + 1 + 1 + 1 + 1, 9, none⟩ = some (.int .i64 0) := (blk_cell HX_a.out 9).trans rfl
  have cX10 : (W5.alloc (.cells #[.string ⟨#[112]⟩, .int .i64 4, .int .i64 5, .int .i64 40, .slice none 0 0, .slice none 0 0, .slice (some ⟨nb, 0, none⟩) 1 c2, .slice none 0 0, .slice none 0 0, .slice none 0 0, .slice none 0 0, .int .i64 0, .int .i64 0, .int .i64 0, .int .i64 0] 50)).cell? ⟨W.heap.size + 1 + 1 + 1 + 1, 10, none⟩ = some (.int .i64 0) := (blk_cell HX_a.out 10).trans rfl
  have cX11 : (W5.alloc (.cells #[.string ⟨#[112]⟩, .int .i64 4, .int .i64 5, .int .i64 40, .slice none 0 0, .slice none 0 0, .slice (some ⟨nb, 0, none⟩) 1 c2, .slice none 0 0, .slice none 0 0, .slice none 0 0, .slice none 0 0, .int .i64 0, .int .i64 0, .int .i64 0, .int .i64 0] 50)).cell? ⟨W.heap.size + 1 + 1 + 1 + 1, 11, none⟩ = some (.bool false) := (blk_cell HX_a.out 11).trans rfl
  have cX12 : (W5.alloc (.cells #[.string ⟨#[112]⟩, .int .i64 4, .int .i64 5, .int .i64 40, .slice none 0 0, .slice none 0 0, .slice (some ⟨nb, 0, none⟩) 1 c2, .slice none 0 0, .slice none 0 0, .slice none 0 0, .slice none 0 0, .int .i64 0, .int .i64 0, .int .i64 0, .int .i64 0] 50)).cell? ⟨W.heap.size + 1 + 1 + 1 + 1, 12, none⟩ = some (.int .i64 0) := (blk_cell HX_a.out 12).trans rfl
  have HV_a := Lib.hid (HV_W5.out.below (below_alloc (Below.refl W5.heap.size W5) (.cells #[.string ⟨#[112]⟩, .int .i64 4, .int .i64 5, .int .i64 40, .slice none 0 0, .slice none 0 0, .slice (some ⟨nb, 0, none⟩) 1 c2, .slice none 0 0, .slice none 0 0, .slice none 0 0, .slice none 0 0, .int .i64 0, .int .i64 0, .int .i64 0, .int .i64 0] 50)))
  have HQV_a := Lib.hid (HQV_W5.out.below (below_alloc (Below.refl W5.heap.size W5) (.cells #[.string ⟨#[112]⟩, .int .i64 4, .int .i64 5, .int .i64 40, .slice none 0 0, .slice none 0 0, .slice (some ⟨nb, 0, none⟩) 1 c2, .slice none 0 0, .slice none 0 0, .slice none 0 0, .slice none 0 0, .int .i64 0, .int .i64 0, .int .i64 0, .int .i64 0] 50)))
  have HB_a := Lib.hid (below_alloc HB_W5.out (.cells #[.string ⟨#[112]⟩, .int .i64 4, .int .i64 5, .int .i64 40, .slice none 0 0, .slice none 0 0, .slice (some ⟨nb, 0, none⟩) 1 c2, .slice none 0 0, .slice none 0 0, .slice none 0 0, .slice none 0 0, .int .i64 0, .int .i64 0, .int .i64 0, .int .i64 0] 50))
  clear HT_W5 HG_W5 HP_W5 HX_W5 HY_W5 HN_W5 HV_W5 HQV_W5 HB_W5
  go_wp2_with fail
  clear cP0 cP1 cP2 cP3 cP4 cP5 cP6 cP7 cP8 cP9 cP10 cP11 cP12 cP13 cP14 cX0 cX1 cX2 cX3 cX4 cX5 cX6 cX7 cX8 cX9 cX10 cX11 cX12
  generalize W5.alloc (.cells #[.string ⟨#[112]⟩, .int .i64 4, .int .i64 5, .int .i64 40, .slice none 0 0, .slice none 0 0, .slice (some ⟨nb, 0, none⟩) 1 c2, .slice none 0 0, .slice none 0 0, .slice none 0 0, .slice none 0 0, .int .i64 0, .int .i64 0, .int .i64 0, .int .i64 0] 50) = W6 at *
  have HT_W6 := Lib.hid HT_a.out
  have HG_W6 := Lib.hid HG_a.out
  have HP_W6 := Lib.hid HP_a.out
  have HX_W6 := Lib.hid HX_a.out
  have HY_W6 := Lib.hid HY_a.out
  have HN_W6 := Lib.hid HN_a.out
  have HQ_W6 := Lib.hid HQ_a.out
  have HV_W6 := Lib.hid HV_a.out
  have HQV_W6 := Lib.hid HQV_a.out
  have HB_W6 := Lib.hid HB_a.out
  clear HB_a HT_a HG_a HP_a HX_a HY_a HN_a HQ_a HV_a HQV_a
  generalize W5.heap.size = qb at *
  refine (WUndoW.undoW W6 W.heap.size _ HV_W6.out).mono ?_
  rintro e W7 ⟨rfl, hb⟩
  have HT_W7 := Lib.hid (blk_below HT_W6.out hb)
  have HG_W7 := Lib.hid (blk_below HG_W6.out hb)
  have HP_W7 := Lib.hid (blk_below HP_W6.out hb)
  have HX_W7 := Lib.hid (blk_below HX_W6.out hb)
  have HY_W7 := Lib.hid (blk_below HY_W6.out hb)
  have HN_W7 := Lib.hid (blk_below HN_W6.out hb)
  have HQ_W7 := Lib.hid (blk_below HQ_W6.out hb)
  have HV_W7 := Lib.hid (HV_W6.out.below hb)
  have HQV_W7 := Lib.hid (HQV_W6.out.below hb)
  have HB_W7 := Lib.hid (below_step HB_W6.out hb)
  clear HT_W6 HG_W6 HP_W6 HX_W6 HY_W6 HN_W6 HQ_W6 HV_W6 HQV_W6 HB_W6 hb
  have HT_a := Lib.hid (blk_alloc HT_W7.out (.cells #[.int .i64 2, .int .i64 0, .int .i64 0, .int .u32 7, .int .u8 1, .int .i64 16, .int .i64 4, .int .i64 0, .slice none 0 0, .int .i64 0, .int .i64 0, .bool false, .int .i64 0] 31))
  have HG_a := Lib.hid (blk_alloc HG_W7.out (.cells #[.int .i64 2, .int .i64 0, .int .i64 0, .int .u32 7, .int .u8 1, .int .i64 16, .int .i64 4, .int .i64 0, .slice none 0 0, .int .i64 0, .int .i64 0, .bool false, .int .i64 0] 31))
  have HP_a := Lib.hid (blk_alloc HP_W7.out (.cells #[.int .i64 2, .int .i64 0, .int .i64 0, .int .u32 7, .int .u8 1, .int .i64 16, .int .i64 4, .int .i64 0, .slice none 0 0, .int .i64 0, .int .i64 0, .bool false, .int .i64 0] 31))
  have HX_a := Lib.hid (blk_alloc HX_W7.out (.cells #[.int .i64 2, .int .i64 0, .int .i64 0, .int .u32 7, .int .u8 1, .int .i64 16, .int .i64 4, .int .i64 0, .slice none 0 0, .int .i64 0, .int .i64 0, .bool false, .int .i64 0] 31))
  have HY_a := Lib.hid (blk_alloc HY_W7.out (.cells #[.int .i64 2, .int .i64 0, .int .i64 0, .int .u32 7, .int .u8 1, .int .i64 16, .int .i64 4, .int .i64 0, .slice none 0 0, .int .i64 0, .int .i64 0, .bool false, .int .i64 0] 31))
  have HN_a := Lib.hid (blk_alloc HN_W7.out (.cells #[.int .i64 2, .int .i64 0, .int .i64 0, .int .u32 7, .int .u8 1, .int .i64 16, .int .i64 4, .int .i64 0, .slice none 0 0, .int .i64 0, .int .i64 0, .bool false, .int .i64 0] 31))
  have HQ_a := Lib.hid (blk_alloc HQ_W7.out (.cells #[.int .i64 2, .int .i64 0, .int .i64 0, .int .u32 7, .int .u8 1, .int .i64 16, .int .i64 4, .int .i64 0, .slice none 0 0, .int .i64 0, .int .i64 0, .bool false, .int .i64 0] 31))
  have HU_a := Lib.hid (blk_new W7 (.cells #[.int .i64 2, .int .i64 0, .int .i64 0, .int .u32 7, .int .u8 1, .int .i64 16, .int .i64 4, .int .i64 0, .slice none 0 0, .int .i64 0, .int .i64 0, .bool false, .int .i64 0] 31))
  have cQ0 : (W7.alloc (.cells #[.int .i64 2, .int .i64 0, .int .i64 0, .int .u32 7, .int .u8 1, .int .i64 16, .int .i64 4, .int .i64 0, .slice none 0 0, .int .i64 0, .int .i64 0, .bool false, .int .i64 0] 31)).cell? ⟨qb, 0, none⟩ = some (.string ⟨#[112]⟩) := (blk_cell HQ_a.out 0).trans rfl
  have cQ1 : (W7.alloc (.cells #[.int .i64 2, .int .i64 0, .int .i64 0, .int .u32 7, .int .u8 1, .int .i64 16, .int .i64 4, .int .i64 0, .slice none 0 0, .int .i64 0, .int .i64 0, .bool false, .int .i64 0] 31)).cell? ⟨qb, 1, none⟩ = some (.int .i64 4) := (blk_cell HQ_a.out 1).trans rfl
  have cQ2 : (W7.alloc (.cells #[.int .i64 2, .int .i64 0, .int .i64 0, .int .u32 7, .int .u8 1, .int .i64 16, .int .i64 4, .int .i64 0, .slice none 0 0, .int .i64 0, .int .i64 0, .bool false, .int .i64 0] 31)).cell? ⟨qb, 2, none⟩ = some (.int .i64 5) := (blk_cell HQ_a.out 2).trans rfl
  have cQ3 : (W7.alloc (.cells #[.int .i64 2, .int .i64 0, .int .i64 0, .int .u32 7, .int .u8 1, .int .i64 16, .int .i64 4, .int .i64 0, .slice none 0 0, .int .i64 0, .int .i64 0, .bool false, .int .i64 0] 31)).cell? ⟨qb, 3, none⟩ = some (.int .i64 40) := (blk_cell HQ_a.out 3).trans rfl
  have cQ4 : (W7.alloc (.cells #[.int .i64 2, .int .i64 0, .int .i64 0, .int .u32 7, .int .u8 1, .int .i64 16, .int .i64 4, .int .i64 0, .slice none 0 0, .int .i64 0, .int .i64 0, .bool false, .int .i64 0] 31)).cell? ⟨qb, 4, none⟩ = some (.slice none 0 0) := (blk_cell HQ_a.out 4).trans rfl
  have cQ5 : (W7.alloc (.cells #[.int .i64 2, .int .i64 0, .int .i64 0, .int .u32 7, .int .u8 1, .int .i64 16, .int .i64 4, .int .i64 0, .slice none 0 0, .int .i64 0, .int .i64 0, .bool false, .int .i64 0] 31)).cell? ⟨qb, 5, none⟩ = some (.slice none 0 0) := (blk_cell HQ_a.out 5).trans rfl
  have cQ6 : (W7.alloc (.cells #[.int .i64 2, .int .i64 0, .int .i64 0, .int .u32 7, .int .u8 1, .int .i64 16, .int .i64 4, .int .i64 0, .slice none 0 0, .int .i64 0, .int .i64 0, .bool false, .int .i64 0] 31)).cell? ⟨qb, 6, none⟩ = some (.slice (some ⟨nb, 0, none⟩) 1 c2) := (blk_cell HQ_a.out 6).trans rfl
  have cQ7 : (W7.alloc (.cells #[.int .i64 2, .int .i64 0, .int .i64 0, .int .u32 7, .int .u8 1, .int .i64 16, .int .i64 4, .int .i64 0, .slice none 0 0, .int .i64 0, .int .i64 0, .bool false, .int .i64 0] 31)).cell? ⟨qb, 7, none⟩ = some (.slice none 0 0) := (blk_cell HQ_a.out 7).trans rfl
  have cQ8 : (W7.alloc (.cells #[.int .i64 2, .int .i64 0, .int .i64 0, .int .u32 7, .int .u8 1, .int .i64 16, .int .i64 4, .int .i64 0, .slice none 0 0, .int .i64 0, .int .i64 0, .bool false, .int .i64 0] 31)).cell? ⟨qb, 8, none⟩ = some (.slice none 0 0) := (blk_cell HQ_a.out 8).trans rfl
  have cQ9 : (W7.alloc (.cells #[.int .i64 2, .int .i64 0, .int .i64 0, .int .u32 7, .int .u8 1, .int .i64 16, .int .i64 4, .int .i64 0, .slice none 0 0, .int .i64 0, .int .i64 0, .bool false, .int .i64 0] 31)).cell? ⟨qb, 9, none⟩ = some (.slice none 0 0) := (blk_cell HQ_a.out 9).trans rfl
  have cQ10 : (W7.alloc (.cells #[.int .i64 2, .int .i64 0, .int .i64 0, .int .u32 7, .int .u8 1, .int .i64 16, .int .i64 4, .int .i64 0, .slice none 0 0, .int .i64 0, .int .i64 0, .bool false, .int .i64 0] 31)).cell? ⟨qb, 10, none⟩ = some (.slice none 0 0) := (blk_cell HQ_a.out 10).trans rfl
  have cQ11 : (W7.alloc (.cells #[.int .i64 2, .int .i64 0, .int .i64 0, .int .u32 7, .int .u8 1, .int .i64 16, .int .i64 4, .int .i64 0, .slice none 0 0, .int .i64 0, .int .i64 0, .bool false, .int .i64 0] 31)).cell? ⟨qb, 11, none⟩ = some (.int .i64 0) := (blk_cell HQ_a.out 11).trans rfl
  have cQ12 : (W7.alloc (.cells #[.int .i64 2, .int .i64 0, .int .i64 0, .int .u32 7, .int .u8 1, .int .i64 16, .int .i64 4, .int .i64 0, .slice none 0 0, .int .i64 0, .int .i64 0, .bool false, .int .i64 0] 31)).cell? ⟨qb, 12, none⟩ = some (.int .i64 0) := (blk_cell HQ_a.out 12).trans rfl
  have cQ13 : (W7.alloc (.cells #[.int .i64 2, .int .i64 0, .int .i64 0, .int .u32 7, .int .u8 1, .int .i64 16, .int .i64 4, .int .i64 0, .slice none 0 0, .int .i64 0, .int .i64 0, .bool false, .int .i64 0] 31)).cell? ⟨qb, 13, none⟩ = some (.int .i64 0) := (blk_cell HQ_a.out 13).trans rfl
  have cQ14 : (W7.alloc (.cells #[.int .i64 2, .int .i64 0, .int .i64 0, .int .u32 7, .int .u8 1, .int .i64 16, .int .i64 4, .int .i64 0, .slice none 0 0, .int .i64 0, .int .i64 0, .bool false, .int .i64 0] 31)).cell? ⟨qb, 14, none⟩ = some (.int .i64 0) := (blk_cell HQ_a.out 14).trans rfl
  have cU0 : (W7.alloc (.cells #[.int .i64 2, .int .i64 0, .int .i64 0, .int .u32 7, .int .u8 1, .int .i64 16, .int .i64 4, .int .i64 0, .slice none 0 0, .int .i64 0, .int .i64 0, .bool false, .int .i64 0] 31)).cell? ⟨W7.heap.size, 0, none⟩ = some (.int .i64 2) := (blk_cell HU_a.out 0).trans rfl
  have cU1 : (W7.alloc (.cells #[.int .i64 2, .int .i64 0, .int .i64 0, .int .u32 7, .int .u8 1, .int .i64 16, .int .i64 4, .int .i64 0, .slice none 0 0, .int .i64 0, .int .i64 0, .bool false, .int .i64 0] 31)).cell? ⟨W7.heap.size, 1, none⟩ = some (.int .i64 0) := (blk_cell HU_a.out 1).trans rfl
  have cU2 : (W7.alloc (.cells #[.int .i64 2, .int .i64 0, .int .i64 0, .int .u32 7, .int .u8 1, .int .i64 16, .int .i64 4, .int .i64 0, .slice none 0 0, .int .i64 0, .int .i64 0, .bool false, .int .i64 0] 31)).cell? ⟨W7.heap.size, 2, none⟩ = some (.int .i64 0) := (blk_cell HU_a.out 2).trans rfl
  have cU3 : (W7.alloc (.cells #[.int .i64 2, .int .i64 0, .int .i64 0, .int .u32 7, .int .u8 1, .int .i64 16, .int .i64 4, .int .i64 0, .slice none 0 0, .int .i64 0, .int .i64 0, .bool false, .int .i64 0] 31)).cell? ⟨W7.heap.size, 3, none⟩ = some (.int .u32 7) := (blk_cell HU_a.out 3).trans rfl
  have cU4 : (W7.alloc (.cells #[.int .i64 2, .int .i64 0, .int .i64 0, .int .u32 7, .int .u8 1, .int .i64 16, .int .i64 4, .int .i64 0, .slice none 0 0, .int .i64 0, .int .i64 0, .bool false, .int .i64 0] 31)).cell? ⟨W7.heap.size, 4, none⟩ = some (.int .u8 1) := (blk_cell HU_a.out 4).trans rfl
  have cU5 : (W7.alloc (.cells #[.int .i64 2, .int .i64 0, .int .i64 0, .int .u32 7, .int .u8 1, .int .i64 16, .int .i64 4, .int .i64 0, .slice none 0 0, .int .i64 0, .int .i64 0, .bool false, .int .i64 0] 31)).cell? ⟨W7.heap.size, 5, none⟩ = some (.int .i64 16) := (blk_cell HU_a.out 5).trans rfl
  have cU6 : (W7.alloc (.cells #[.int .i64 2, .int .i64 0, .int .i64 0, .int .u32 7, .int .u8 1, .int .i64 16, .int .i64 4, .int .i64 0, .slice none 0 0, .int .i64 0, .int .i64 0, .bool false, .int .i64 0] 31)).cell? ⟨W7.heap.size, 6, none⟩ = some (.int .i64 4) := (blk_cell HU_a.out 6).trans rfl
  have cU7 : (W7.alloc (.cells #[.int .i64 2, .int .i64 0, .int .i64 0, .int .u32 7, .int .u8 1, .int .i64 16, .int .i64 4, .int .i64 0, .slice none 0 0, .int .i64 0, .int .i64 0, .bool false, .int .i64 0] 31)).cell? ⟨W7.heap.size, 7, none⟩ = some (.int .i64 0) := (blk_cell HU_a.out 7).trans rfl
  have cU8 : (W7.alloc (.cells #[.int .i64 2, .int .i64 0, .int .i64 0, .int .u32 7, .int .u8 1, .int .i64 16, .int .i64 4, .int .i64 0, .slice none 0 0, .int .i64 0, .int .i64 0, .bool false, .int .i64 0] 31)).cell? ⟨W7.heap.size, 8, none⟩ = some (.slice none 0 0) := (blk_cell HU_a.out 8).trans rfl
  have cU9 : (W7.alloc (.cells #[.int .i64 2, .int .i64 0, .int .i64 0, .int .u32 7, .int .u8 1, .int .i64 16, .int .i64 4, .int .i64 0, .slice none 0 0, .int .i64 0, .int .i64 0, .bool false, .int .i64 0] 31)).cell? ⟨W7.heap.size, 9, none⟩ = some (.int .i64 0) := (blk_cell HU_a.out 9).trans rfl
  have cU10 : (W7.alloc (.cells #[.int .i64 2, .int .i64 0, .int .i64 0, .int .u32 7, .int .u8 1, .int .i64 16, .int .i64 4, .int .i64 0, .slice none 0 0, .int .i64 0, .int .i64 0, .bool false, .int .i64 0] 31)).cell? ⟨W7.heap.size, 10, none⟩ = some (.int .i64 0) := (blk_cell HU_a.out 10).trans rfl
  have cU11 : (W7.alloc (.cells #[.int .i64 2, .int .i64 0, .int .i64 0, .int .u32 7, .int .u8 1, .int .i64 16, .int .i64 4, .int .i64 0, .slice none 0 0, .int .i64 0, .int .i64 0, .bool false, .int .i64 0] 31)).cell? ⟨W7.heap.size, 11, none⟩ = some (.bool false) := (blk_cell HU_a.out 11).trans rfl
  have cU12 : (W7.alloc (.cells #[.int .i64 2, .int .i64 0, .int .i64 0, .int .u32 7, .int .u8 1, .int .i64 16, .int .i64 4, .int .i64 0, .slice none 0 0, .int .i64 0, .int .i64 0, .bool false, .int .i64 0] 31)).cell? ⟨W7.heap.size, 12, none⟩ = some (.int .i64 0) := (blk_cell HU_a.out 12).trans rfl
  have HV_a := Lib.hid (HV_W7.out.below (below_alloc (Below.refl W7.heap.size W7) (.cells #[.int .i64 2, .int .i64 0, .int .i64 0, .int .u32 7, .int .u8 1, .int .i64 16, .int .i64 4, .int .i64 0, .slice none 0 0, .int .i64 0, .int .i64 0, .bool false, .int .i64 0] 31)))
  have HQV_a := Lib.hid (HQV_W7.out.below (below_alloc (Below.refl W7.heap.size W7) (.cells #[.int .i64 2, .int .i64 0, .int .i64 0, .int .u32 7, .int .u8 1, .int .i64 16, .int .i64 4, .int .i64 0, .slice none 0 0, .int .i64 0, .int .i64 0, .bool false, .int .i64 0] 31)))
  have HB_a := Lib.hid (below_alloc HB_W7.out (.cells #[.int .i64 2, .int .i64 0, .int .i64 0, .int .u32 7, .int .u8 1, .int .i64 16, .int .i64 4, .int .i64 0, .slice none 0 0, .int .i64 0, .int .i64 0, .bool false, .int .i64 0] 31))
  clear HT_W7 HG_W7 HP_W7 HX_W7 HY_W7 HN_W7 HQ_W7 HV_W7 HQV_W7 HB_W7
  go_wp2_with fail
  clear cQ0 cQ1 cQ2 cQ3 cQ4 cQ5 cQ6 cQ7 cQ8 cQ9 cQ10 cQ11 cQ12 cQ13 cQ14 cU0 cU1 cU2 cU3 cU4 cU5 cU6 cU7 cU8 cU9 cU10 cU11 cU12
  generalize W7.alloc (.cells #[.int .i64 2, .int .i64 0, .int .i64 0, .int .u32 7, .int .u8 1, .int .i64 16, .int .i64 4, .int .i64 0, .slice none 0 0, .int .i64 0, .int .i64 0, .bool false, .int .i64 0] 31) = W8 at *
  have HT_W8 := Lib.hid HT_a.out
  have HG_W8 := Lib.hid HG_a.out
  have HP_W8 := Lib.hid HP_a.out
  have HX_W8 := Lib.hid HX_a.out
  have HY_W8 := Lib.hid HY_a.out
  have HN_W8 := Lib.hid HN_a.out
  have HQ_W8 := Lib.hid HQ_a.out
  have HU_W8 := Lib.hid HU_a.out
  have HV_W8 := Lib.hid HV_a.out
  have HQV_W8 := Lib.hid HQV_a.out
  have HB_W8 := Lib.hid HB_a.out
  clear HB_a HT_a HG_a HP_a HX_a HY_a HN_a HQ_a HU_a HV_a HQV_a
  generalize W7.heap.size = ub at *
  refine (WDo2.do2 W8 _ _ HQV_W8.out).mono ?_
  rintro e W9 ⟨vz, rfl, hz, hb⟩
  have HZV_W9 := Lib.hid hz
  obtain ⟨zn, c4, a4, rest4, rfl, _⟩ := hz
  have HT_W9 := Lib.hid (blk_below HT_W8.out hb)
  have HG_W9 := Lib.hid (blk_below HG_W8.out hb)
  have HP_W9 := Lib.hid (blk_below HP_W8.out hb)
  have HX_W9 := Lib.hid (blk_below HX_W8.out hb)
  have HY_W9 := Lib.hid (blk_below HY_W8.out hb)
  have HN_W9 := Lib.hid (blk_below HN_W8.out hb)
  have HQ_W9 := Lib.hid (blk_below HQ_W8.out hb)
  have HU_W9 := Lib.hid (blk_below HU_W8.out hb)
  have HV_W9 := Lib.hid (HV_W8.out.below hb)
  have HQV_W9 := Lib.hid (HQV_W8.out.below hb)
  have HB_W9 := Lib.hid (below_step HB_W8.out hb)
  clear HT_W8 HG_W8 HP_W8 HX_W8 HY_W8 HN_W8 HQ_W8 HU_W8 HV_W8 HQV_W8 HB_W8 hb
  unfold prob
  have HT_a := Lib.hid (blk_alloc HT_W9.out (.cells #[.string ⟨#[112]⟩, .int .i64 4, .int .i64 5, .int .i64 40, .slice none 0 0, .slice none 0 0, .slice (some ⟨zn, 0, none⟩) 1 c4, .slice none 0 0, .slice none 0 0, .slice none 0 0, .slice none 0 0, .int .i64 0, .int .i64 0, .int .i64 0, .int .i64 0] 50))
  have HG_a := Lib.hid (blk_alloc HG_W9.out (.cells #[.string ⟨#[112]⟩, .int .i64 4, .int .i64 5, .int .i64 40, .slice none 0 0, .slice none 0 0, .slice (some ⟨zn, 0, none⟩) 1 c4, .slice none 0 0, .slice none 0 0, .slice none 0 0, .slice none 0 0, .int .i64 0, .int .i64 0, .int .i64 0, .int .i64 0] 50))
  have HP_a := Lib.hid (blk_alloc HP_W9.out (.cells #[.string ⟨#[112]⟩, .int .i64 4, .int .i64 5, .int .i64 40, .slice none 0 0, .slice none 0 0, .slice (some ⟨zn, 0, none⟩) 1 c4, .slice none 0 0, .slice none 0 0, .slice none 0 0, .slice none 0 0, .int .i64 0, .int .i64 0, .int .i64 0, .int .i64 0] 50))
  have HX_a := Lib.hid (blk_alloc HX_W9.out (.cells #[.string ⟨#[112]⟩, .int .i64 4, .int .i64 5, .int .i64 40, .slice none 0 0, .slice none 0 0, .slice (some ⟨zn, 0, none⟩) 1 c4, .slice none 0 0, .slice none 0 0, .slice none 0 0, .slice none 0 0, .int .i64 0, .int .i64 0, .int .i64 0, .int .i64 0] 50))
  have HY_a := Lib.hid (blk_alloc HY_W9.out (.cells #[.string ⟨#[112]⟩, .int .i64 4, .int .i64 5, .int .i64 40, .slice none 0 0, .slice none 0 0, .slice (some ⟨zn, 0, none⟩) 1 c4, .slice none 0 0, .slice none 0 0, .slice none 0 0, .slice none 0 0, .int .i64 0, .int .i64 0, .int .i64 0, .int .i64 0] 50))
  have HN_a := Lib.hid (blk_alloc HN_W9.out (.cells #[.string ⟨#[112]⟩, .int .i64 4, .int .i64 5, .int .i64 40, .slice none 0 0, .slice none 0 0, .slice (some ⟨zn, 0, none⟩) 1 c4, .slice none 0 0, .slice none 0 0, .slice none 0 0, .slice none 0 0, .int .i64 0, .int .i64 0, .int .i64 0, .int .i64 0] 50))
  have HQ_a := Lib.hid (blk_alloc HQ_W9.out (.cells #[.string ⟨#[112]⟩, .int .i64 4, .int .i64 5, .int .i64 40, .slice none 0 0, .slice none 0 0, .slice (some ⟨zn, 0, none⟩) 1 c4, .slice none 0 0, .slice none 0 0, .slice none 0 0, .slice none 0 0, .int .i64 0, .int .i64 0, .int .i64 0, .int .i64 0] 50))
  have HU_a := Lib.hid (blk_alloc HU_W9.out (.cells #[.string ⟨#[112]⟩, .int .i64 4, .int .i64 5, .int .i64 40, .slice none 0 0, .slice none 0 0, .slice (some ⟨zn, 0, none⟩) 1 c4, .slice none 0 0, .slice none 0 0, .slice none 0 0, .slice none 0 0, .int .i64 0, .int .i64 0, .int .i64 0, .int .i64 0] 50))
  have HZ_a := Lib.hid (blk_new W9 (.cells #[.string ⟨#[112]⟩, .int .i64 4, .int .i64 5, .int .i64 40, .slice none 0 0, .slice none 0 0, .slice (some ⟨zn, 0, none⟩) 1 c4, .slice none 0 0, .slice none 0 0, .slice none 0 0, .slice none 0 0, .int .i64 0, .int .i64 0, .int .i64 0, .int .i64 0] 50))
  have cP0 : (W9.alloc (.cells #[.string ⟨#[112]⟩, .int .i64 4, .int .i64 5, .int .i64 40, .slice none 0 0, .slice none 0 0, .slice (some ⟨zn, 0, none⟩) 1 c4, .slice none 0 0, .slice none 0 0, .slice none 0 0, .slice none 0 0, .int .i64 0, .int .i64 0, .int .i64 0, .int .i64 0] 50)).cell? ⟨W.heap.size + 1 + 1 + 1, 0, none⟩ = some (.string ⟨#[112]⟩) := (blk_cell HP_a.out 0).trans rfl
  have cP1 : (W9.alloc (.cells #[.string ⟨#[112]⟩, .int .i64 4, .int .i64 5, .int .i64 40, .slice none 0 0, .slice none 0 0, .slice (some ⟨zn, 0, none⟩) 1 c4, .slice none 0 0, .slice none 0 0, .slice none 0 0, .slice none 0 0, .int .i64 0, .int .i64 0, .int .i64 0, .int .i64 0] 50)).cell? ⟨W.heap.size + 1 + 1 + 1, 1, none⟩ = some (.int .i64 4) := (blk_cell HP_a.out 1).trans rfl
  have cP2 : (W9.alloc (.cells #[.string ⟨#[112]⟩, .int .i64 4, .int .i64 5, .int .i64 40, .slice none 0 0, .slice none 0 0, .slice (some ⟨zn, 0, none⟩) 1 c4, .slice none 0 0, .slice none 0 0, .slice none 0 0, .slice none 0 0, .int .i64 0, .int .i64 0, .int .i64 0, .int .i64 0] 50)).cell? ⟨W.heap.size + 1 + 1 + 1, 2, none⟩ = some (.int .i64 5) := (blk_cell HP_a.out 2).trans rfl
  have cP3 : (W9.alloc (.cells #[.string ⟨#[112]⟩, .int .i64 4, .int .i64 5, .int .i64 40, .slice none 0 0, .slice none 0 0, .slice (some ⟨zn, 0, none⟩) 1 c4, .slice none 0 0, .slice none 0 0, .slice none 0 0, .slice none 0 0, .int .i64 0, .int .i64 0, .int .i64 0, .int .i64 0] 50)).cell? ⟨W.heap.size + 1 + 1 + 1, 3, none⟩ = some (.int .i64 40) := (blk_cell HP_a.out 3).trans rfl
  have cP4 : (W9.alloc (.cells #[.string ⟨#[112]⟩, .int .i64 4, .int .i64 5, .int .i64 40, .slice none 0 0, .slice none 0 0, .slice (some ⟨zn, 0, none⟩) 1 c4, .slice none 0 0, .slice none 0 0, .slice none 0 0, .slice none 0 0, .int .i64 0, .int .i64 0, .int .i64 0, .int .i64 0] 50)).cell? ⟨W.heap.size + 1 + 1 + 1, 4, none⟩ = some (.slice none 0 0) := (blk_cell HP_a.out 4).trans rfl
  have cP5 : (W9.alloc (.cells #[.string ⟨#[112]⟩, .int .i64 4, .int .i64 5, .int .i64 40, .slice none 0 0, .slice none 0 0, .slice (some ⟨zn, 0, none⟩) 1 c4, .slice none 0 0, .slice none 0 0, .slice none 0 0, .slice none 0 0, .int .i64 0, .int .i64 0, .int .i64 0, .int .i64 0] 50)).cell? ⟨W.heap.size + 1 + 1 + 1, 5, none⟩ = some (.slice none 0 0) := (blk_cell HP_a.out 5).trans rfl
  have cP6 : (W9.alloc (.cells #[.string ⟨#[112]⟩, .int .i64 4, .int .i64 5, .int .i64 40, .slice none 0 0, .slice none 0 0, .slice (some ⟨zn, 0, none⟩) 1 c4, .slice none 0 0, .slice none 0 0, .slice none 0 0, .slice none 0 0, .int .i64 0, .int .i64 0, .int .i64 0, .int .i64 0] 50)).cell? ⟨W.heap.size + 1 + 1 + 1, 6, none⟩ = some (.slice (some ⟨W.heap.size + 1 + 1, 0, none⟩) 1 1) := (blk_cell HP_a.out 6).trans rfl
  have cP7 : (W9.alloc (.cells #[.string ⟨#[112]⟩, .int .i64 4, .int .i64 5, .int .i64 40, .slice none 0 0, .slice none 0 0, .slice (some ⟨zn, 0, none⟩) 1 c4, .slice none 0 0, .slice none 0 0, .slice none 0 0, .slice none 0 0, .int .i64 0, .int .i64 0, .int .i64 0, .int .i64 0] 50)).cell? ⟨W.heap.size + 1 + 1 + 1, 7, none⟩ = some (.slice none 0 0) := (blk_cell HP_a.out 7).trans rfl
  have cP8 : (W9.alloc (.cells #[.string ⟨#[112]⟩, .int .i64 4, .int .i64 5, .int .i64 40, .slice none 0 0, .slice none 0 0, .slice (some ⟨zn, 0, none⟩) 1 c4, .slice none 0 0, .slice none 0 0, .slice none 0 0, .slice none 0 0, .int .i64 0, .int .i64 0, .int .i64 0, .int .i64 0] 50)).cell? ⟨W.heap.size + 1 + 1 + 1, 8, none⟩ = some (.slice none 0 0) := (blk_cell HP_a.out 8).trans rfl
  have cP9 : (W9.alloc (.cells #[.string ⟨#[112]⟩, .int .i64 4, .int .i64 5, .int .i64 40, .slice none 0 0, .slice none 0 0, .slice (some ⟨zn, 0, none⟩) 1 c4, .slice none 0 0, .slice none 0 0, .slice none 0 0, .slice none 0 0, .int .i64 0, .int .i64 0, .int .i64 0, .int .i64 0] 50)).cell? ⟨W.heap.size + 1 + 1 + 1, 9, none⟩ = some (.slice none 0 0) := (blk_cell HP_a.out 9).trans rfl
  have cP10 : (W9.alloc (.cells #[.string ⟨#[112]⟩, .int .i64 4, .int .i64 5, .int .i64 40, .slice none 0 0, .slice none 0 0, .slice (some ⟨zn, 0, none⟩) 1 c4, .slice none 0 0, .slice none 0 0, .slice none 0 0, .slice none 0 0, .int .i64 0, .int .i64 0, .int .i64 0, .int .i64 0] 50)).cell? ⟨W.heap.size + 1 + 1 + 1, 10, none⟩ = some (.slice none 0 0) := (blk_cell HP_a.out 10).trans rfl
  have cP11 : (W9.alloc (.cells #[.string ⟨#[112]⟩, .int .i64 4, .int .i64 5, .int .i64 40, .slice none 0 0, .slice none 0 0, .slice (some ⟨zn, 0, none⟩) 1 c4, .slice none 0 0, .slice none 0 0, .slice none 0 0, .slice none 0 0, .int .i64 0, .int .i64 0, .int .i64 0, .int .i64 0] 50)).cell? ⟨W.heap.size + 1 + 1 + 1, 11, none⟩ = some (.int .i64 0) := (blk_cell HP_a.out 11).trans rfl
  have cP12 : (W9.alloc (.cells #[.string ⟨#[112]⟩, .int .i64 4, .int .i64 5, .int .i64 40, .slice none 0 0, .slice none 0 0, .slice (some ⟨zn, 0, none⟩) 1 c4, .slice none 0 0, .slice none 0 0, .slice none 0 0, .slice none 0 0, .int .i64 0, .int .i64 0, .int .i64 0, .int .i64 0] 50)).cell? ⟨W.heap.size + 1 + 1 + 1, 12, none⟩ = some (.int .i64 0) := (blk_cell HP_a.out 12).trans rfl
  have cP13 : (W9.alloc (.cells #[.string ⟨#[112]⟩, .int .i64 4, .int .i64 5, .int .i64 40, .slice none 0 0, .slice none 0 0, .slice (some ⟨zn, 0, none⟩) 1 c4, .slice none 0 0, .slice none 0 0, .slice none 0 0, .slice none 0 0, .int .i64 0, .int .i64 0, .int .i64 0, .int .i64 0] 50)).cell? ⟨W.heap.size + 1 + 1 + 1, 13, none⟩ = some (.int .i64 0) := (blk_cell HP_a.out 13).trans rfl
  have cP14 : (W9.alloc (.cells #[.string ⟨#[112]⟩, .int .i64 4, .int .i64 5, .int .i64 40, .slice none 0 0, .slice none 0 0, .slice (some ⟨zn, 0, none⟩) 1 c4, .slice none 0 0, .slice none 0 0, .slice none 0 0, .slice none 0 0, .int .i64 0, .int .i64 0, .int .i64 0, .int .i64 0] 50)).cell? ⟨W.heap.size + 1 + 1 + 1, 14, none⟩ = some (.int .i64 0) := (blk_cell HP_a.out 14).trans rfl
  have HV_a := Lib.hid (HV_W9.out.below (below_alloc (Below.refl W9.heap.size W9) (.cells #[.string ⟨#[112]⟩, .int .i64 4, .int .i64 5, .int .i64 40, .slice none 0 0, .slice none 0 0, .slice (some ⟨zn, 0, none⟩) 1 c4, .slice none 0 0, .slice none 0 0, .slice none 0 0, .slice none 0 0, .int .i64 0, .int .i64 0, .int .i64 0, .int .i64 0] 50)))
  have HQV_a := Lib.hid (HQV_W9.out.below (below_alloc (Below.refl W9.heap.size W9) (.cells #[.string ⟨#[112]⟩, .int .i64 4, .int .i64 5, .int .i64 40, .slice none 0 0, .slice none 0 0, .slice (some ⟨zn, 0, none⟩) 1 c4, .slice none 0 0, .slice none 0 0, .slice none 0 0, .slice none 0 0, .int .i64 0, .int .i64 0, .int .i64 0, .int .i64 0] 50)))
  have HZV_a := Lib.hid (HZV_W9.out.below (below_alloc (Below.refl W9.heap.size W9) (.cells #[.string ⟨#[112]⟩, .int .i64 4, .int .i64 5, .int .i64 40, .slice none 0 0, .slice none 0 0, .slice (some ⟨zn, 0, none⟩) 1 c4, .slice none 0 0, .slice none 0 0, .slice none 0 0, .slice none 0 0, .int .i64 0, .int .i64 0, .int .i64 0, .int .i64 0] 50)))
  have HB_a := Lib.hid (below_alloc HB_W9.out (.cells #[.string ⟨#[112]⟩, .int .i64 4, .int .i64 5, .int .i64 40, .slice none 0 0, .slice none 0 0, .slice (some ⟨zn, 0, none⟩) 1 c4, .slice none 0 0, .slice none 0 0, .slice none 0 0, .slice none 0 0, .int .i64 0, .int .i64 0, .int .i64 0, .int .i64 0] 50))
  clear HT_W9 HG_W9 HP_W9 HX_W9 HY_W9 HN_W9 HQ_W9 HU_W9 HV_W9 HQV_W9 HZV_W9 HB_W9
  go_wp2_with fail
  clear cP0 cP1 cP2 cP3 cP4 cP5 cP6 cP7 cP8 cP9 cP10 cP11 cP12 cP13 cP14
  generalize W9.alloc (.cells #[.string ⟨#[112]⟩, .int .i64 4, .int .i64 5, .int .i64 40, .slice none 0 0, .slice none 0 0, .slice (some ⟨zn, 0, none⟩) 1 c4, .slice none 0 0, .slice none 0 0, .slice none 0 0, .slice none 0 0, .int .i64 0, .int .i64 0, .int .i64 0, .int .i64 0] 50) = WA at *
  have HT_WA := Lib.hid HT_a.out
  have HG_WA := Lib.hid HG_a.out
  have HP_WA := Lib.hid HP_a.out
  have HX_WA := Lib.hid HX_a.out
  have HY_WA := Lib.hid HY_a.out
  have HN_WA := Lib.hid HN_a.out
  have HQ_WA := Lib.hid HQ_a.out
  have HU_WA := Lib.hid HU_a.out
  have HZ_WA := Lib.hid HZ_a.out
  have HV_WA := Lib.hid HV_a.out
  have HQV_WA := Lib.hid HQV_a.out
  have HZV_WA := Lib.hid HZV_a.out
  have HB_WA := Lib.hid HB_a.out
  clear HB_a HT_a HG_a HP_a HX_a HY_a HN_a HQ_a HU_a HZ_a HV_a HQV_a HZV_a
  generalize W9.heap.size = zb at *
  refine (WDo5.do5 WA W.heap.size _ HV_WA.out).mono ?_
  rintro e WB ⟨rfl, hb⟩
  have HT_WB := Lib.hid (blk_below HT_WA.out hb)
  have HG_WB := Lib.hid (blk_below HG_WA.out hb)
  have HP_WB := Lib.hid (blk_below HP_WA.out hb)
  have HX_WB := Lib.hid (blk_below HX_WA.out hb)
  have HY_WB := Lib.hid (blk_below HY_WA.out hb)
  have HN_WB := Lib.hid (blk_below HN_WA.out hb)
  have HQ_WB := Lib.hid (blk_below HQ_WA.out hb)
  have HU_WB := Lib.hid (blk_below HU_WA.out hb)
  have HZ_WB := Lib.hid (blk_below HZ_WA.out hb)
  have HV_WB := Lib.hid (HV_WA.out.below hb)
  have HQV_WB := Lib.hid (HQV_WA.out.below hb)
  have HZV_WB := Lib.hid (HZV_WA.out.below hb)
  have HB_WB := Lib.hid (below_step HB_WA.out hb)
  clear HT_WA HG_WA HP_WA HX_WA HY_WA HN_WA HQ_WA HU_WA HZ_WA HV_WA HQV_WA HZV_WA HB_WA hb
  have HT_WC := Lib.hid (blk_alloc HT_WB.out (.cells #[.string ⟨#[]⟩, .int .i64 0, .int .i64 0, .int .i64 0, .slice none 0 0, .slice none 0 0, .slice none 0 0, .slice none 0 0, .slice none 0 0, .slice none 0 0, .slice none 0 0, .int .i64 0, .int .i64 0, .int .i64 0, .int .i64 0] 50))
  have HG_WC := Lib.hid (blk_alloc HG_WB.out (.cells #[.string ⟨#[]⟩, .int .i64 0, .int .i64 0, .int .i64 0, .slice none 0 0, .slice none 0 0, .slice none 0 0, .slice none 0 0, .slice none 0 0, .slice none 0 0, .slice none 0 0, .int .i64 0, .int .i64 0, .int .i64 0, .int .i64 0] 50))
  have HP_WC := Lib.hid (blk_alloc HP_WB.out (.cells #[.string ⟨#[]⟩, .int .i64 0, .int .i64 0, .int .i64 0, .slice none 0 0, .slice none 0 0, .slice none 0 0, .slice none 0 0, .slice none 0 0, .slice none 0 0, .slice none 0 0, .int .i64 0, .int .i64 0, .int .i64 0, .int .i64 0] 50))
  have HX_WC := Lib.hid (blk_alloc HX_WB.out (.cells #[.string ⟨#[]⟩, .int .i64 0, .int .i64 0, .int .i64 0, .slice none 0 0, .slice none 0 0, .slice none 0 0, .slice none 0 0, .slice none 0 0, .slice none 0 0, .slice none 0 0, .int .i64 0, .int .i64 0, .int .i64 0, .int .i64 0] 50))
  have HY_WC := Lib.hid (blk_alloc HY_WB.out (.cells #[.string ⟨#[]⟩, .int .i64 0, .int .i64 0, .int .i64 0, .slice none 0 0, .slice none 0 0, .slice none 0 0, .slice none 0 0, .slice none 0 0, .slice none 0 0, .slice none 0 0, .int .i64 0, .int .i64 0, .int .i64 0, .int .i64 0] 50))
  have HN_WC := Lib.hid (blk_alloc HN_WB.out (.cells #[.string ⟨#[]⟩, .int .i64 0, .int .i64 0, .int .i64 0, .slice none 0 0, .slice none 0 0, .slice none 0 0, .slice none 0 0, .slice none 0 0, .slice none 0 0, .slice none 0 0, .int .i64 0, .int .i64 0, .int .i64 0, .int .i64 0] 50))
  have HQ_WC := Lib.hid (blk_alloc HQ_WB.out (.cells #[.string ⟨#[]⟩, .int .i64 0, .int .i64 0, .int .i64 0, .slice none 0 0, .slice none 0 0, .slice none 0 0, .slice none 0 0, .slice none 0 0, .slice none 0 0, .slice none 0 0, .int .i64 0, .int .i64 0, .int .i64 0, .int .i64 0] 50))
  have HU_WC := Lib.hid (blk_alloc HU_WB.out (.cells #[.string ⟨#[]⟩, .int .i64 0, .int .i64 0, .int .i64 0, .slice none 0 0, .slice none 0 0, .slice none 0 0, .slice none 0 0, .slice none 0 0, .slice none 0 0, .slice none 0 0, .int .i64 0, .int .i64 0, .int .i64 0, .int .i64 0] 50))
  have HZ_WC := Lib.hid (blk_alloc HZ_WB.out (.cells #[.string ⟨#[]⟩, .int .i64 0, .int .i64 0, .int .i64 0, .slice none 0 0, .slice none 0 0, .slice none 0 0, .slice none 0 0, .slice none 0 0, .slice none 0 0, .slice none 0 0, .int .i64 0, .int .i64 0, .int .i64 0, .int .i64 0] 50))
  have HV_WC := Lib.hid (HV_WB.out.below (below_alloc (Below.refl WB.heap.size WB) (.cells #[.string ⟨#[]⟩, .int .i64 0, .int .i64 0, .int .i64 0, .slice none 0 0, .slice none 0 0, .slice none 0 0, .slice none 0 0, .slice none 0 0, .slice none 0 0, .slice none 0 0, .int .i64 0, .int .i64 0, .int .i64 0, .int .i64 0] 50)))
  have HQV_WC := Lib.hid (HQV_WB.out.below (below_alloc (Below.refl WB.heap.size WB) (.cells #[.string ⟨#[]⟩, .int .i64 0, .int .i64 0, .int .i64 0, .slice none 0 0, .slice none 0 0, .slice none 0 0, .slice none 0 0, .slice none 0 0, .slice none 0 0, .slice none 0 0, .int .i64 0, .int .i64 0, .int .i64 0, .int .i64 0] 50)))
  have HZV_WC := Lib.hid (HZV_WB.out.below (below_alloc (Below.refl WB.heap.size WB) (.cells #[.string ⟨#[]⟩, .int .i64 0, .int .i64 0, .int .i64 0, .slice none 0 0, .slice none 0 0, .slice none 0 0, .slice none 0 0, .slice none 0 0, .slice none 0 0, .slice none 0 0, .int .i64 0, .int .i64 0, .int .i64 0, .int .i64 0] 50)))
  have HB_WC := Lib.hid (below_alloc HB_WB.out (.cells #[.string ⟨#[]⟩, .int .i64 0, .int .i64 0, .int .i64 0, .slice none 0 0, .slice none 0 0, .slice none 0 0, .slice none 0 0, .slice none 0 0, .slice none 0 0, .slice none 0 0, .int .i64 0, .int .i64 0, .int .i64 0, .int .i64 0] 50))
  clear HB_WB HT_WB HG_WB HP_WB HX_WB HY_WB HN_WB HQ_WB HU_WB HZ_WB HV_WB HQV_WB HZV_WB
  go_upto_region 11 with (fail)
  generalize WB.alloc (.cells #[.string ⟨#[]⟩, .int .i64 0, .int .i64 0, .int .i64 0, .slice none 0 0, .slice none 0 0, .slice none 0 0, .slice none 0 0, .slice none 0 0, .slice none 0 0, .slice none 0 0, .int .i64 0, .int .i64 0, .int .i64 0, .int .i64 0] 50) = WC at *
  refine tail WC _ _ _ _ _ yb qb ub zb _ nb zn tb _ c2 c3 c4 rest2 hc2 HT_WC.out HP_WC.out HX_WC.out HY_WC.out HQ_WC.out HU_WC.out HZ_WC.out HN_WC.out HV_WC.out HZV_WC.out _ _ _ _ _ _ _ _ _ _ _ _ _ _ _ _ _ _ _ _ _ _ _ _ _ _ _ _ _ _ _ _ _ _ _ _ _ _ _ _ _ _ _ _ _ _ _ _ _ _ _ _ _ _ _ _ _ _ _ _ _ _ _ _ _ _ _ _ _ _ _ _ _ _ _ _ _ _ _ _ _ _ _ _ _ _ _ _ _ _ _ _ _ _ _ _ _ _ _ _ _ _ _ _ _ _ _ _ ?_
  intro a w h0 hd hb
  have hfin := below_step HB_WC.out hb
  rename_i hKK
  refine hKK a w (wp_ret ?_)
  have hr : (Tryz.f5).results = #[.tmp 0] := rfl
  have hres : (results Tryz.f5 a.tmps).run Tryz.prog w = .ok (.bool true) w := by simp [results, hr, h0]
  exact (bodyPost_ret hres hd ⟨rfl, hfin⟩ : bodyPost Tryz.prog Tryz.f5 (fun e w' => e = .returned (.bool true) ∧ Below W.heap.size W w') .ret a w)
end Go.Proofs.YtklgecdklngekaaGreatDoor.WHeads
