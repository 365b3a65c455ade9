/- wish.Undo at the example -/
import Derived.Test.YtklgecdklngekaaGreatDoorWDo1
import Derived.Test.YtklgecdklngekaaGreatDoorWUndo
namespace Go.Proofs.YtklgecdklngekaaGreatDoor.WUndoW
set_option linter.unusedVariables false
set_option linter.unusedSimpArgs false
open Go.RowKit Go.Proofs.YtklgecdklngekaaGreatDoorW.PrintWords Go.Proofs.YtklgecdklngekaaGreatDoorW.PrintLast Go.Proofs.YtklgecdklngekaaGreatDoor.Q Go.Proofs.YtklgecdklngekaaGreatDoor.WPers Go.Proofs.YtklgecdklngekaaGreatDoor.WExm
set_option maxHeartbeats 8000000 in
set_option maxRecDepth 100000 in
theorem undoW (W : World) (lo : Nat) (v : Value) (hp : Per W lo false v) :
    Calls Tryz.prog 13 #[prob v, .agg #[.int .i64 1, .int .i64 0, .int .i64 0, .int .u32 7, .int .u8 1, .int .i64 16, .int .i64 4, .int .i64 0, .slice none 0 0, .int .i64 0, .int .i64 0, .bool false, .int .i64 0]] W fun e w' => e = .returned (.tuple #[.agg #[.int .i64 2, .int .i64 0, .int .i64 0, .int .u32 7, .int .u8 1, .int .i64 16, .int .i64 4, .int .i64 0, .slice none 0 0, .int .i64 0, .int .i64 0, .bool false, .int .i64 0], .int .i64 0]) ∧ Below W.heap.size W w' := by
  have HPV := Lib.hid hp
  obtain ⟨pb, c, a, rest, rfl, hc, _⟩ := hp
  unfold prob
  have hu_0 := Tryz.underlying50
  have hu_1 := Tryz.underlying31
  go_enter Tryz.func13, Tryz.ntmps13
  go_wp2_with fail
  have HB0 := Lib.hid (blk_alloc (blk_alloc (blk_new W (.cells #[.string ⟨#[112]⟩, .int .i64 4, .int .i64 5, .int .i64 40, .slice none 0 0, .slice none 0 0, .slice (some ⟨pb, 0, none⟩) 1 c, .slice none 0 0, .slice none 0 0, .slice none 0 0, .slice none 0 0, .int .i64 0, .int .i64 0, .int .i64 0, .int .i64 0] 50)) (.cells #[.int .i64 1, .int .i64 0, .int .i64 0, .int .u32 7, .int .u8 1, .int .i64 16, .int .i64 4, .int .i64 0, .slice none 0 0, .int .i64 0, .int .i64 0, .bool false, .int .i64 0] 31)) (.cells #[.int .i64 0, .int .i64 0, .int .i64 0, .int .u32 0, .int .u8 0, .int .i64 0, .int .i64 0, .int .i64 0, .slice none 0 0, .int .i64 0, .int .i64 0, .bool false, .int .i64 0] 31))
  have hn1 := blk_new (W.alloc (.cells #[.string ⟨#[112]⟩, .int .i64 4, .int .i64 5, .int .i64 40, .slice none 0 0, .slice none 0 0, .slice (some ⟨pb, 0, none⟩) 1 c, .slice none 0 0, .slice none 0 0, .slice none 0 0, .slice none 0 0, .int .i64 0, .int .i64 0, .int .i64 0, .int .i64 0] 50)) (.cells #[.int .i64 1, .int .i64 0, .int .i64 0, .int .u32 7, .int .u8 1, .int .i64 16, .int .i64 4, .int .i64 0, .slice none 0 0, .int .i64 0, .int .i64 0, .bool false, .int .i64 0] 31)
  rw [World.size_alloc] at hn1
  have HB1 := Lib.hid (blk_alloc (hn1) (.cells #[.int .i64 0, .int .i64 0, .int .i64 0, .int .u32 0, .int .u8 0, .int .i64 0, .int .i64 0, .int .i64 0, .slice none 0 0, .int .i64 0, .int .i64 0, .bool false, .int .i64 0] 31))
  clear hn1
  have hn2 := blk_new ((W.alloc (.cells #[.string ⟨#[112]⟩, .int .i64 4, .int .i64 5, .int .i64 40, .slice none 0 0, .slice none 0 0, .slice (some ⟨pb, 0, none⟩) 1 c, .slice none 0 0, .slice none 0 0, .slice none 0 0, .slice none 0 0, .int .i64 0, .int .i64 0, .int .i64 0, .int .i64 0] 50)).alloc (.cells #[.int .i64 1, .int .i64 0, .int .i64 0, .int .u32 7, .int .u8 1, .int .i64 16, .int .i64 4, .int .i64 0, .slice none 0 0, .int .i64 0, .int .i64 0, .bool false, .int .i64 0] 31)) (.cells #[.int .i64 0, .int .i64 0, .int .i64 0, .int .u32 0, .int .u8 0, .int .i64 0, .int .i64 0, .int .i64 0, .slice none 0 0, .int .i64 0, .int .i64 0, .bool false, .int .i64 0] 31)
  rw [World.size_alloc, World.size_alloc] at hn2
  have HB2 := Lib.hid (hn2)
  clear hn2
  have HBW := Lib.hid (below_alloc (below_alloc (below_alloc (Below.refl W.heap.size W) (.cells #[.string ⟨#[112]⟩, .int .i64 4, .int .i64 5, .int .i64 40, .slice none 0 0, .slice none 0 0, .slice (some ⟨pb, 0, none⟩) 1 c, .slice none 0 0, .slice none 0 0, .slice none 0 0, .slice none 0 0, .int .i64 0, .int .i64 0, .int .i64 0, .int .i64 0] 50)) (.cells #[.int .i64 1, .int .i64 0, .int .i64 0, .int .u32 7, .int .u8 1, .int .i64 16, .int .i64 4, .int .i64 0, .slice none 0 0, .int .i64 0, .int .i64 0, .bool false, .int .i64 0] 31)) (.cells #[.int .i64 0, .int .i64 0, .int .i64 0, .int .u32 0, .int .u8 0, .int .i64 0, .int .i64 0, .int .i64 0, .slice none 0 0, .int .i64 0, .int .i64 0, .bool false, .int .i64 0] 31))
  generalize ((W.alloc (.cells #[.string ⟨#[112]⟩, .int .i64 4, .int .i64 5, .int .i64 40, .slice none 0 0, .slice none 0 0, .slice (some ⟨pb, 0, none⟩) 1 c, .slice none 0 0, .slice none 0 0, .slice none 0 0, .slice none 0 0, .int .i64 0, .int .i64 0, .int .i64 0, .int .i64 0] 50)).alloc (.cells #[.int .i64 1, .int .i64 0, .int .i64 0, .int .u32 7, .int .u8 1, .int .i64 16, .int .i64 4, .int .i64 0, .slice none 0 0, .int .i64 0, .int .i64 0, .bool false, .int .i64 0] 31)).alloc (.cells #[.int .i64 0, .int .i64 0, .int .i64 0, .int .u32 0, .int .u8 0, .int .i64 0, .int .i64 0, .int .i64 0, .slice none 0 0, .int .i64 0, .int .i64 0, .bool false, .int .i64 0] 31) = W1 at *
  have HV1 := Lib.hid (HPV.out.below HBW.out)
  refine (WDo1.do1 W1 lo _ HV1.out).mono ?_
  rintro e W2 ⟨vq, rfl, hq, hb⟩
  obtain ⟨nb, c2, a2, rest2, rfl, _⟩ := hq
  have HP_W2 := Lib.hid (blk_below HB0.out hb)
  have HX_W2 := Lib.hid (blk_below HB1.out hb)
  have HR_W2 := Lib.hid (blk_below HB2.out hb)
  have HV_W2 := Lib.hid (HV1.out.below hb)
  have HB_W2 := Lib.hid (below_step HBW.out hb)
  clear hb HB0 HB1 HB2 HBW HV1 HPV
  unfold prob
  have HP_a := Lib.hid (blk_alloc HP_W2.out (.cells #[.string ⟨#[112]⟩, .int .i64 4, .int .i64 5, .int .i64 40, .slice none 0 0, .slice none 0 0, .slice (some ⟨nb, 0, none⟩) 1 c2, .slice none 0 0, .slice none 0 0, .slice none 0 0, .slice none 0 0, .int .i64 0, .int .i64 0, .int .i64 0, .int .i64 0] 50))
  have HX_a := Lib.hid (blk_alloc HX_W2.out (.cells #[.string ⟨#[112]⟩, .int .i64 4, .int .i64 5, .int .i64 40, .slice none 0 0, .slice none 0 0, .slice (some ⟨nb, 0, none⟩) 1 c2, .slice none 0 0, .slice none 0 0, .slice none 0 0, .slice none 0 0, .int .i64 0, .int .i64 0, .int .i64 0, .int .i64 0] 50))
  have HR_a := Lib.hid (blk_alloc HR_W2.out (.cells #[.string ⟨#[112]⟩, .int .i64 4, .int .i64 5, .int .i64 40, .slice none 0 0, .slice none 0 0, .slice (some ⟨nb, 0, none⟩) 1 c2, .slice none 0 0, .slice none 0 0, .slice none 0 0, .slice none 0 0, .int .i64 0, .int .i64 0, .int .i64 0, .int .i64 0] 50))
  have HQ_a := Lib.hid (blk_new W2 (.cells #[.string ⟨#[112]⟩, .int .i64 4, .int .i64 5, .int .i64 40, .slice none 0 0, .slice none 0 0, .slice (some ⟨nb, 0, none⟩) 1 c2, .slice none 0 0, .slice none 0 0, .slice none 0 0, .slice none 0 0, .int .i64 0, .int .i64 0, .int .i64 0, .int .i64 0] 50))
  have cP0 : (W2.alloc (.cells #[.string ⟨#[112]⟩, .int .i64 4, .int .i64 5, .int .i64 40, .slice none 0 0, .slice none 0 0, .slice (some ⟨nb, 0, none⟩) 1 c2, .slice none 0 0, .slice none 0 0, .slice none 0 0, .slice none 0 0, .int .i64 0, .int .i64 0, .int .i64 0, .int .i64 0] 50)).cell? ⟨W.heap.size, 0, none⟩ = some (.string ⟨#[112]⟩) := (blk_cell HP_a.out 0).trans rfl
  have cP1 : (W2.alloc (.cells #[.string ⟨#[112]⟩, .int .i64 4, .int .i64 5, .int .i64 40, .slice none 0 0, .slice none 0 0, .slice (some ⟨nb, 0, none⟩) 1 c2, .slice none 0 0, .slice none 0 0, .slice none 0 0, .slice none 0 0, .int .i64 0, .int .i64 0, .int .i64 0, .int .i64 0] 50)).cell? ⟨W.heap.size, 1, none⟩ = some (.int .i64 4) := (blk_cell HP_a.out 1).trans rfl
  have cP2 : (W2.alloc (.cells #[.string ⟨#[112]⟩, .int .i64 4, .int .i64 5, .int .i64 40, .slice none 0 0, .slice none 0 0, .slice (some ⟨nb, 0, none⟩) 1 c2, .slice none 0 0, .slice none 0 0, .slice none 0 0, .slice none 0 0, .int .i64 0, .int .i64 0, .int .i64 0, .int .i64 0] 50)).cell? ⟨W.heap.size, 2, none⟩ = some (.int .i64 5) := (blk_cell HP_a.out 2).trans rfl
  have cP3 : (W2.alloc (.cells #[.string ⟨#[112]⟩, .int .i64 4, .int .i64 5, .int .i64 40, .slice none 0 0, .slice none 0 0, .slice (some ⟨nb, 0, none⟩) 1 c2, .slice none 0 0, .slice none 0 0, .slice none 0 0, .slice none 0 0, .int .i64 0, .int .i64 0, .int .i64 0, .int .i64 0] 50)).cell? ⟨W.heap.size, 3, none⟩ = some (.int .i64 40) := (blk_cell HP_a.out 3).trans rfl
  have cP4 : (W2.alloc (.cells #[.string ⟨#[112]⟩, .int .i64 4, .int .i64 5, .int .i64 40, .slice none 0 0, .slice none 0 0, .slice (some ⟨nb, 0, none⟩) 1 c2, .slice none 0 0, .slice none 0 0, .slice none 0 0, .slice none 0 0, .int .i64 0, .int .i64 0, .int .i64 0, .int .i64 0] 50)).cell? ⟨W.heap.size, 4, none⟩ = some (.slice none 0 0) := (blk_cell HP_a.out 4).trans rfl
  have cP5 : (W2.alloc (.cells #[.string ⟨#[112]⟩, .int .i64 4, .int .i64 5, .int .i64 40, .slice none 0 0, .slice none 0 0, .slice (some ⟨nb, 0, none⟩) 1 c2, .slice none 0 0, .slice none 0 0, .slice none 0 0, .slice none 0 0, .int .i64 0, .int .i64 0, .int .i64 0, .int .i64 0] 50)).cell? ⟨W.heap.size, 5, none⟩ = some (.slice none 0 0) := (blk_cell HP_a.out 5).trans rfl
  have cP6 : (W2.alloc (.cells #[.string ⟨#[112]⟩, .int .i64 4, .int .i64 5, .int .i64 40, .slice none 0 0, .slice none 0 0, .slice (some ⟨nb, 0, none⟩) 1 c2, .slice none 0 0, .slice none 0 0, .slice none 0 0, .slice none 0 0, .int .i64 0, .int .i64 0, .int .i64 0, .int .i64 0] 50)).cell? ⟨W.heap.size, 6, none⟩ = some (.slice (some ⟨pb, 0, none⟩) 1 c) := (blk_cell HP_a.out 6).trans rfl
  have cP7 : (W2.alloc (.cells #[.string ⟨#[112]⟩, .int .i64 4, .int .i64 5, .int .i64 40, .slice none 0 0, .slice none 0 0, .slice (some ⟨nb, 0, none⟩) 1 c2, .slice none 0 0, .slice none 0 0, .slice none 0 0, .slice none 0 0, .int .i64 0, .int .i64 0, .int .i64 0, .int .i64 0] 50)).cell? ⟨W.heap.size, 7, none⟩ = some (.slice none 0 0) := (blk_cell HP_a.out 7).trans rfl
  have cP8 : (W2.alloc (.cells #[.string ⟨#[112]⟩, .int .i64 4, .int .i64 5, .int .i64 40, .slice none 0 0, .slice none 0 0, .slice (some ⟨nb, 0, none⟩) 1 c2, .slice none 0 0, .slice none 0 0, .slice none 0 0, .slice none 0 0, .int .i64 0, .int .i64 0, .int .i64 0, .int .i64 0] 50)).cell? ⟨W.heap.size, 8, none⟩ = some (.slice none 0 0) := (blk_cell HP_a.out 8).trans rfl
  have cP9 : (W2.alloc (.cells #[.string ⟨#[112]⟩, .int .i64 4, .int .i64 5, .int .i64 40, .slice none 0 0, .slice none 0 0, .slice (some ⟨nb, 0, none⟩) 1 c2, .slice none 0 0, .slice none 0 0, .slice none 0 0, .slice none 0 0, .int .i64 0, .int .i64 0, .int .i64 0, .int .i64 0] 50)).cell? ⟨W.heap.size, 9, none⟩ = some (.slice none 0 0) := (blk_cell HP_a.out 9).trans rfl
  have cP10 : (W2.alloc (.cells #[.string ⟨#[112]⟩, .int .i64 4, .int .i64 5, .int .i64 40, .slice none 0 0, .slice none 0 0, .slice (some ⟨nb, 0, none⟩) 1 c2, .slice none 0 0, .slice none 0 0, .slice none 0 0, .slice none 0 0, .int .i64 0, .int .i64 0, .int .i64 0, .int .i64 0] 50)).cell? ⟨W.heap.size, 10, none⟩ = some (.slice none 0 0) := (blk_cell HP_a.out 10).trans rfl
  have cP11 : (W2.alloc (.cells #[.string ⟨#[112]⟩, .int .i64 4, .int .i64 5, .int .i64 40, .slice none 0 0, .slice none 0 0, .slice (some ⟨nb, 0, none⟩) 1 c2, .slice none 0 0, .slice none 0 0, .slice none 0 0, .slice none 0 0, .int .i64 0, .int .i64 0, .int .i64 0, .int .i64 0] 50)).cell? ⟨W.heap.size, 11, none⟩ = some (.int .i64 0) := (blk_cell HP_a.out 11).trans rfl
  have cP12 : (W2.alloc (.cells #[.string ⟨#[112]⟩, .int .i64 4, .int .i64 5, .int .i64 40, .slice none 0 0, .slice none 0 0, .slice (some ⟨nb, 0, none⟩) 1 c2, .slice none 0 0, .slice none 0 0, .slice none 0 0, .slice none 0 0, .int .i64 0, .int .i64 0, .int .i64 0, .int .i64 0] 50)).cell? ⟨W.heap.size, 12, none⟩ = some (.int .i64 0) := (blk_cell HP_a.out 12).trans rfl
  have cP13 : (W2.alloc (.cells #[.string ⟨#[112]⟩, .int .i64 4, .int .i64 5, .int .i64 40, .slice none 0 0, .slice none 0 0, .slice (some ⟨nb, 0, none⟩) 1 c2, .slice none 0 0, .slice none 0 0, .slice none 0 0, .slice none 0 0, .int .i64 0, .int .i64 0, .int .i64 0, .int .i64 0] 50)).cell? ⟨W.heap.size, 13, none⟩ = some (.int .i64 0) := (blk_cell HP_a.out 13).trans rfl
  have cP14 : (W2.alloc (.cells #[.string ⟨#[112]⟩, .int .i64 4, .int .i64 5, .int .i64 40, .slice none 0 0, .slice none 0 0, .slice (some ⟨nb, 0, none⟩) 1 c2, .slice none 0 0, .slice none 0 0, .slice none 0 0, .slice none 0 0, .int .i64 0, .int .i64 0, .int .i64 0, .int .i64 0] 50)).cell? ⟨W.heap.size, 14, none⟩ = some (.int .i64 0) := (blk_cell HP_a.out 14).trans rfl
  have cX0 : (W2.alloc (.cells #[.string ⟨#[112]⟩, .int .i64 4, .int .i64 5, .int .i64 40, .slice none 0 0, .slice none 0 0, .slice (some ⟨nb, 0, none⟩) 1 c2, .slice none 0 0, .slice none 0 0, .slice none 0 0, .slice none 0 0, .int .i64 0, .int .i64 0, .int .i64 0, .int .i64 0] 50)).cell? ⟨W.heap.size + 1, 0, none⟩ = some (.int .i64 1) := (blk_cell HX_a.out 0).trans rfl
  have cX1 : (W2.alloc (.cells #[.string ⟨#[112]⟩, .int .i64 4, .int .i64 5, .int .i64 40, .slice none 0 0, .slice none 0 0, .slice (some ⟨nb, 0, none⟩) 1 c2, .slice none 0 0, .slice none 0 0, .slice none 0 0, .slice none 0 0, .int .i64 0, .int .i64 0, .int .i64 0, .int .i64 0] 50)).cell? ⟨W.heap.size + 1, 1, none⟩ = some (.int .i64 0) := (blk_cell HX_a.out 1).trans rfl
  have cX2 : (W2.alloc (.cells #[.string ⟨#[112]⟩, .int .i64 4, .int .i64 5, .int .i64 40, .slice none 0 0, .slice none 0 0, .slice (some ⟨nb, 0, none⟩) 1 c2, .slice none 0 0, .slice none 0 0, .slice none 0 0, .slice none 0 0, .int .i64 0, .int .i64 0, .int .i64 0, .int .i64 0] 50)).cell? ⟨W.heap.size + 1, 2, none⟩ = some (.int .i64 0) := (blk_cell HX_a.out 2).trans rfl
  have cX3 : (W2.alloc (.cells #[.string ⟨#[112]⟩, .int .i64 4, .int .i64 5, .int .i64 40, .slice none 0 0, .slice none 0 0, .slice (some ⟨nb, 0, none⟩) 1 c2, .slice none 0 0, .slice none 0 0, .slice none 0 0, .slice none 0 0, .int .i64 0, .int .i64 0, .int .i64 0, .int .i64 0] 50)).cell? ⟨W.heap.size + 1, 3, none⟩ = some (.int .u32 7) := (blk_cell HX_a.out 3).trans rfl
  have cX4 : (W2.alloc (.cells #[.string ⟨#[112]⟩, .int .i64 4, .int .i64 5, .int .i64 40, .slice none 0 0, .slice none 0 0, .slice (some ⟨nb, 0, none⟩) 1 c2, .slice none 0 0, .slice none 0 0, .slice none 0 0, .slice none 0 0, .int .i64 0, .int .i64 0, .int .i64 0, .int .i64 0] 50)).cell? ⟨W.heap.size + 1, 4, none⟩ = some (.int .u8 1) := (blk_cell HX_a.out 4).trans rfl
  have cX5 : (W2.alloc (.cells #[.string ⟨#[112]⟩, .int .i64 4, .int .i64 5, .int .i64 40, .slice none 0 0, .slice none 0 0, .slice (some ⟨nb, 0, none⟩) 1 c2, .slice none 0 0, .slice none 0 0, .slice none 0 0, .slice none 0 0, .int .i64 0, .int .i64 0, .int .i64 0, .int .i64 0] 50)).cell? ⟨W.heap.size + 1, 5, none⟩ = some (.int .i64 16) := (blk_cell HX_a.out 5).trans rfl
  have cX6 : (W2.alloc (.cells #[.string ⟨#[112]⟩, .int .i64 4, .int .i64 5, .int .i64 40, .slice none 0 0, .slice none 0 0, .slice (some ⟨nb, 0, none⟩) 1 c2, .slice none 0 0, .slice none 0 0, .slice none 0 0, .slice none 0 0, .int .i64 0, .int .i64 0, .int .i64 0, .int .i64 0] 50)).cell? ⟨W.heap.size + 1, 6, none⟩ = some (.int .i64 4) := (blk_cell HX_a.out 6).trans rfl
  have cX7 : (W2.alloc (.cells #[.string ⟨#[112]⟩, .int .i64 4, .int .i64 5, .int .i64 40, .slice none 0 0, .slice none 0 0, .slice (some ⟨nb, 0, none⟩) 1 c2, .slice none 0 0, .slice none 0 0, .slice none 0 0, .slice none 0 0, .int .i64 0, .int .i64 0, .int .i64 0, .int .i64 0] 50)).cell? ⟨W.heap.size + 1, 7, none⟩ = some (.int .i64 0) := (blk_cell HX_a.out 7).trans rfl
  have cX8 : (W2.alloc (.cells #[.string ⟨#[112]⟩, .int .i64 4, .int .i64 5, .int .i64 40, .slice none 0 0, .slice none 0 0, .slice (some ⟨nb, 0, none⟩) 1 c2, .slice none 0 0, .slice none 0 0, .slice none 0 0, .slice none 0 0, .int .i64 0, .int .i64 0, .int .i64 0, .int .i64 0] 50)).cell? ⟨W.heap.size + 1, 8, none⟩ = some (.slice none 0 0) := (blk_cell HX_a.out 8).trans rfl
  have cX9 : (W2.alloc (.cells #[.string ⟨#[112]⟩, .int .i64 4, .int .i64 5, .int .i64 40, .slice none 0 0, .slice none 0 0, .slice (some ⟨nb, 0, none⟩) 1 c2, .slice none 0 0, .slice none 0 0, .slice none 0 0, .slice none 0 0, .int .i64 0, .int .i64 0, .int .i64 0, .int .i64 0] 50)).cell? ⟨W.heap.size + 1, 9, none⟩ = some (.int .i64 0) := (blk_cell HX_a.out 9).trans rfl
  have cX10 : (W2.alloc (.cells #[.string ⟨#[112]⟩, .int .i64 4, .int .i64 5, .int .i64 40, .slice none 0 0, .slice none 0 0, .slice (some ⟨nb, 0, none⟩) 1 c2, .slice none 0 0, .slice none 0 0, .slice none 0 0, .slice none 0 0, .int .i64 0, .int .i64 0, .int .i64 0, .int .i64 0] 50)).cell? ⟨W.heap.size + 1, 10, none⟩ = some (.int .i64 0) := (blk_cell HX_a.out 10).trans rfl
  have cX11 : (W2.alloc (.cells #[.string ⟨#[112]⟩, .int .i64 4, .int .i64 5, .int .i64 40, .slice none 0 0, .slice none 0 0, .slice (some ⟨nb, 0, none⟩) 1 c2, .slice none 0 0, .slice none 0 0, .slice none 0 0, .slice none 0 0, .int .i64 0, .int .i64 0, .int .i64 0, .int .i64 0] 50)).cell? ⟨W.heap.size + 1, 11, none⟩ = some (.bool false) := (blk_cell HX_a.out 11).trans rfl
  have cX12 : (W2.alloc (.cells #[.string ⟨#[112]⟩, .int .i64 4, .int .i64 5, .int .i64 40, .slice none 0 0, .slice none 0 0, .slice (some ⟨nb, 0, none⟩) 1 c2, .slice none 0 0, .slice none 0 0, .slice none 0 0, .slice none 0 0, .int .i64 0, .int .i64 0, .int .i64 0, .int .i64 0] 50)).cell? ⟨W.heap.size + 1, 12, none⟩ = some (.int .i64 0) := (blk_cell HX_a.out 12).trans rfl
  have HV_a := Lib.hid (HV_W2.out.below (below_alloc (Below.refl W2.heap.size W2) (.cells #[.string ⟨#[112]⟩, .int .i64 4, .int .i64 5, .int .i64 40, .slice none 0 0, .slice none 0 0, .slice (some ⟨nb, 0, none⟩) 1 c2, .slice none 0 0, .slice none 0 0, .slice none 0 0, .slice none 0 0, .int .i64 0, .int .i64 0, .int .i64 0, .int .i64 0] 50)))
  have HB_a := Lib.hid (below_alloc HB_W2.out (.cells #[.string ⟨#[112]⟩, .int .i64 4, .int .i64 5, .int .i64 40, .slice none 0 0, .slice none 0 0, .slice (some ⟨nb, 0, none⟩) 1 c2, .slice none 0 0, .slice none 0 0, .slice none 0 0, .slice none 0 0, .int .i64 0, .int .i64 0, .int .i64 0, .int .i64 0] 50))
  clear HP_W2 HX_W2 HR_W2 HV_W2 HB_W2
  go_wp2_with fail
  clear cP0 cP1 cP2 cP3 cP4 cP5 cP6 cP7 cP8 cP9 cP10 cP11 cP12 cP13 cP14 cX0 cX1 cX2 cX3 cX4 cX5 cX6 cX7 cX8 cX9 cX10 cX11 cX12
  generalize W2.alloc (.cells #[.string ⟨#[112]⟩, .int .i64 4, .int .i64 5, .int .i64 40, .slice none 0 0, .slice none 0 0, .slice (some ⟨nb, 0, none⟩) 1 c2, .slice none 0 0, .slice none 0 0, .slice none 0 0, .slice none 0 0, .int .i64 0, .int .i64 0, .int .i64 0, .int .i64 0] 50) = W3 at *
  have HP_W3 := Lib.hid HP_a.out
  have HX_W3 := Lib.hid HX_a.out
  have HR_W3 := Lib.hid HR_a.out
  have HQ_W3 := Lib.hid HQ_a.out
  have HV_W3 := Lib.hid HV_a.out
  have HB_W3 := Lib.hid HB_a.out
  clear HB_a HP_a HX_a HR_a HQ_a HV_a
  refine (WUndo.undo1 W3 lo _ HV_W3.out).mono ?_
  rintro e W4 ⟨rfl, hb⟩
  have HP_W4 := Lib.hid (blk_below HP_W3.out hb)
  have HX_W4 := Lib.hid (blk_below HX_W3.out hb)
  have HR_W4 := Lib.hid (blk_below HR_W3.out hb)
  have HQ_W4 := Lib.hid (blk_below HQ_W3.out hb)
  have HV_W4 := Lib.hid (HV_W3.out.below hb)
  have HB_W4 := Lib.hid (below_step HB_W3.out hb)
  clear HP_W3 HX_W3 HR_W3 HQ_W3 HV_W3 HB_W3 hb
  have z0 : W4.cell? ⟨W.heap.size + 1 + 1, 0, none⟩ = some (.int .i64 0) := (blk_cell HR_W4.out 0).trans rfl
  have fz0 : W4.frozen? ⟨W.heap.size + 1 + 1, 0, none⟩ = false := blk_frozen HR_W4.out 0
  have z1 : W4.cell? ⟨W.heap.size + 1 + 1, 1, none⟩ = some (.int .i64 0) := (blk_cell HR_W4.out 1).trans rfl
  have fz1 : W4.frozen? ⟨W.heap.size + 1 + 1, 1, none⟩ = false := blk_frozen HR_W4.out 1
  have z2 : W4.cell? ⟨W.heap.size + 1 + 1, 2, none⟩ = some (.int .i64 0) := (blk_cell HR_W4.out 2).trans rfl
  have fz2 : W4.frozen? ⟨W.heap.size + 1 + 1, 2, none⟩ = false := blk_frozen HR_W4.out 2
  have z3 : W4.cell? ⟨W.heap.size + 1 + 1, 3, none⟩ = some (.int .u32 0) := (blk_cell HR_W4.out 3).trans rfl
  have fz3 : W4.frozen? ⟨W.heap.size + 1 + 1, 3, none⟩ = false := blk_frozen HR_W4.out 3
  have z4 : W4.cell? ⟨W.heap.size + 1 + 1, 4, none⟩ = some (.int .u8 0) := (blk_cell HR_W4.out 4).trans rfl
  have fz4 : W4.frozen? ⟨W.heap.size + 1 + 1, 4, none⟩ = false := blk_frozen HR_W4.out 4
  have z5 : W4.cell? ⟨W.heap.size + 1 + 1, 5, none⟩ = some (.int .i64 0) := (blk_cell HR_W4.out 5).trans rfl
  have fz5 : W4.frozen? ⟨W.heap.size + 1 + 1, 5, none⟩ = false := blk_frozen HR_W4.out 5
  have z6 : W4.cell? ⟨W.heap.size + 1 + 1, 6, none⟩ = some (.int .i64 0) := (blk_cell HR_W4.out 6).trans rfl
  have fz6 : W4.frozen? ⟨W.heap.size + 1 + 1, 6, none⟩ = false := blk_frozen HR_W4.out 6
  have z7 : W4.cell? ⟨W.heap.size + 1 + 1, 7, none⟩ = some (.int .i64 0) := (blk_cell HR_W4.out 7).trans rfl
  have fz7 : W4.frozen? ⟨W.heap.size + 1 + 1, 7, none⟩ = false := blk_frozen HR_W4.out 7
  have z8 : W4.cell? ⟨W.heap.size + 1 + 1, 8, none⟩ = some (.slice none 0 0) := (blk_cell HR_W4.out 8).trans rfl
  have fz8 : W4.frozen? ⟨W.heap.size + 1 + 1, 8, none⟩ = false := blk_frozen HR_W4.out 8
  have z9 : W4.cell? ⟨W.heap.size + 1 + 1, 9, none⟩ = some (.int .i64 0) := (blk_cell HR_W4.out 9).trans rfl
  have fz9 : W4.frozen? ⟨W.heap.size + 1 + 1, 9, none⟩ = false := blk_frozen HR_W4.out 9
  have z10 : W4.cell? ⟨W.heap.size + 1 + 1, 10, none⟩ = some (.int .i64 0) := (blk_cell HR_W4.out 10).trans rfl
  have fz10 : W4.frozen? ⟨W.heap.size + 1 + 1, 10, none⟩ = false := blk_frozen HR_W4.out 10
  have z11 : W4.cell? ⟨W.heap.size + 1 + 1, 11, none⟩ = some (.bool false) := (blk_cell HR_W4.out 11).trans rfl
  have fz11 : W4.frozen? ⟨W.heap.size + 1 + 1, 11, none⟩ = false := blk_frozen HR_W4.out 11
  have z12 : W4.cell? ⟨W.heap.size + 1 + 1, 12, none⟩ = some (.int .i64 0) := (blk_cell HR_W4.out 12).trans rfl
  have fz12 : W4.frozen? ⟨W.heap.size + 1 + 1, 12, none⟩ = false := blk_frozen HR_W4.out 12
  go_wp2_with fail
  refine bodyPost_ret (results_ct rfl _ _ (W.heap.size + 1 + 1) 31 #[.int .i64 2, .int .i64 0, .int .i64 0, .int .u32 7, .int .u8 1, .int .i64 16, .int .i64 4, .int .i64 0, .slice none 0 0, .int .i64 0, .int .i64 0, .bool false, .int .i64 0] (0, 0) _ rfl (blk_set (blk_set (blk_set (blk_set (blk_set (blk_set (blk_set (blk_set (blk_set (blk_set (blk_set (blk_set (blk_set HR_W4.out 0 _) 1 _) 2 _) 3 _) 4 _) 5 _) 6 _) 7 _) 8 _) 9 _) 10 _) 11 _) 12 _) Tryz.underlying31 rfl (by kernel_rfl)) rfl ?_
  exact ⟨rfl, (((((((((((((HB_W4.out.setCell (p := ⟨W.heap.size + 1 + 1, 0, none⟩) (by show W.heap.size ≤ W.heap.size + 1 + 1; omega) _).setCell (p := ⟨W.heap.size + 1 + 1, 1, none⟩) (by show W.heap.size ≤ W.heap.size + 1 + 1; omega) _).setCell (p := ⟨W.heap.size + 1 + 1, 2, none⟩) (by show W.heap.size ≤ W.heap.size + 1 + 1; omega) _).setCell (p := ⟨W.heap.size + 1 + 1, 3, none⟩) (by show W.heap.size ≤ W.heap.size + 1 + 1; omega) _).setCell (p := ⟨W.heap.size + 1 + 1, 4, none⟩) (by show W.heap.size ≤ W.heap.size + 1 + 1; omega) _).setCell (p := ⟨W.heap.size + 1 + 1, 5, none⟩) (by show W.heap.size ≤ W.heap.size + 1 + 1; omega) _).setCell (p := ⟨W.heap.size + 1 + 1, 6, none⟩) (by show W.heap.size ≤ W.heap.size + 1 + 1; omega) _).setCell (p := ⟨W.heap.size + 1 + 1, 7, none⟩) (by show W.heap.size ≤ W.heap.size + 1 + 1; omega) _).setCell (p := ⟨W.heap.size + 1 + 1, 8, none⟩) (by show W.heap.size ≤ W.heap.size + 1 + 1; omega) _).setCell (p := ⟨W.heap.size + 1 + 1, 9, none⟩) (by show W.heap.size ≤ W.heap.size + 1 + 1; omega) _).setCell (p := ⟨W.heap.size + 1 + 1, 10, none⟩) (by show W.heap.size ≤ W.heap.size + 1 + 1; omega) _).setCell (p := ⟨W.heap.size + 1 + 1, 11, none⟩) (by show W.heap.size ≤ W.heap.size + 1 + 1; omega) _).setCell (p := ⟨W.heap.size + 1 + 1, 12, none⟩) (by show W.heap.size ≤ W.heap.size + 1 + 1; omega) _)⟩
end Go.Proofs.YtklgecdklngekaaGreatDoor.WUndoW
