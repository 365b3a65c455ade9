/- wish.Do at the example -/
import Derived.Test.YtklgecdklngekaaGreatDoorWTimes
import Derived.Test.YtklgecdklngekaaGreatDoorWCopy
import Derived.Test.YtklgecdklngekaaGreatDoorWBack
import Derived.Test.YtklgecdklngekaaGreatDoorWRight
import Derived.Test.YtklgecdklngekaaGreatDoorWFacts
namespace Go.Proofs.YtklgecdklngekaaGreatDoor.WDo1
set_option linter.unusedVariables false
set_option linter.unusedSimpArgs false
open Go.RowKit Go.Proofs.YtklgecdklngekaaGreatDoorW.PrintWords Go.Proofs.YtklgecdklngekaaGreatDoorW.PrintLast Go.Proofs.YtklgecdklngekaaGreatDoor.Q Go.Proofs.YtklgecdklngekaaGreatDoor.WPers Go.Proofs.YtklgecdklngekaaGreatDoor.WExm Go.Proofs.YtklgecdklngekaaGreatDoor.WIx Go.Proofs.YtklgecdklngekaaGreatDoor.WRd
def here : ByteArray := ⟨#[104, 101, 114, 101]⟩
def seats : ByteArray := ⟨#[115, 101, 97, 116, 115]⟩
theorem form2 : wish_formOf.f 2 = some (here, true, false, true, false, true) := by kernel_rfl
theorem form5 : wish_formOf.f 5 = some (seats, true, true, false, false, true) := by kernel_rfl
set_option maxHeartbeats 8000000 in
set_option maxRecDepth 100000 in
theorem do1 (W : World) (lo : Nat) (v : Value) (hp : Per W lo false v) :
    Calls Tryz.prog 12 #[prob v, .agg #[.int .i64 1, .int .i64 0, .int .i64 0, .int .u32 7, .int .u8 1, .int .i64 16, .int .i64 4, .int .i64 0, .slice none 0 0, .int .i64 0, .int .i64 0, .bool false, .int .i64 0]] W fun e w' => ∃ v', e = .returned (.tuple #[prob v', .int .i64 0]) ∧ Per w' W.heap.size true v' ∧ Below W.heap.size W w' := by
  have HPV := Lib.hid hp
  obtain ⟨pb, c, a, rest, rfl, hc, _⟩ := hp
  unfold prob
  have hu_0 := Tryz.underlying50
  have hu_1 := Tryz.underlying31
  go_enter Tryz.func12, Tryz.ntmps12
  go_wp2_with fail
  have HB0 := Lib.hid (blk_alloc (blk_alloc (blk_new W (.cells #[.string ⟨#[112]⟩, .int .i64 4, .int .i64 5, .int .i64 40, .slice none 0 0, .slice none 0 0, .slice (some ⟨pb, 0, none⟩) 1 c, .slice none 0 0, .slice none 0 0, .slice none 0 0, .slice none 0 0, .int .i64 0, .int .i64 0, .int .i64 0, .int .i64 0] 50)) (.cells #[.int .i64 1, .int .i64 0, .int .i64 0, .int .u32 7, .int .u8 1, .int .i64 16, .int .i64 4, .int .i64 0, .slice none 0 0, .int .i64 0, .int .i64 0, .bool false, .int .i64 0] 31)) (.cells #[.string ⟨#[]⟩, .int .i64 0, .int .i64 0, .int .i64 0, .slice none 0 0, .slice none 0 0, .slice none 0 0, .slice none 0 0, .slice none 0 0, .slice none 0 0, .slice none 0 0, .int .i64 0, .int .i64 0, .int .i64 0, .int .i64 0] 50))
  have hn1 := blk_new (W.alloc (.cells #[.string ⟨#[112]⟩, .int .i64 4, .int .i64 5, .int .i64 40, .slice none 0 0, .slice none 0 0, .slice (some ⟨pb, 0, none⟩) 1 c, .slice none 0 0, .slice none 0 0, .slice none 0 0, .slice none 0 0, .int .i64 0, .int .i64 0, .int .i64 0, .int .i64 0] 50)) (.cells #[.int .i64 1, .int .i64 0, .int .i64 0, .int .u32 7, .int .u8 1, .int .i64 16, .int .i64 4, .int .i64 0, .slice none 0 0, .int .i64 0, .int .i64 0, .bool false, .int .i64 0] 31)
  rw [World.size_alloc] at hn1
  have HB1 := Lib.hid (blk_alloc (hn1) (.cells #[.string ⟨#[]⟩, .int .i64 0, .int .i64 0, .int .i64 0, .slice none 0 0, .slice none 0 0, .slice none 0 0, .slice none 0 0, .slice none 0 0, .slice none 0 0, .slice none 0 0, .int .i64 0, .int .i64 0, .int .i64 0, .int .i64 0] 50))
  clear hn1
  have hn2 := blk_new ((W.alloc (.cells #[.string ⟨#[112]⟩, .int .i64 4, .int .i64 5, .int .i64 40, .slice none 0 0, .slice none 0 0, .slice (some ⟨pb, 0, none⟩) 1 c, .slice none 0 0, .slice none 0 0, .slice none 0 0, .slice none 0 0, .int .i64 0, .int .i64 0, .int .i64 0, .int .i64 0] 50)).alloc (.cells #[.int .i64 1, .int .i64 0, .int .i64 0, .int .u32 7, .int .u8 1, .int .i64 16, .int .i64 4, .int .i64 0, .slice none 0 0, .int .i64 0, .int .i64 0, .bool false, .int .i64 0] 31)) (.cells #[.string ⟨#[]⟩, .int .i64 0, .int .i64 0, .int .i64 0, .slice none 0 0, .slice none 0 0, .slice none 0 0, .slice none 0 0, .slice none 0 0, .slice none 0 0, .slice none 0 0, .int .i64 0, .int .i64 0, .int .i64 0, .int .i64 0] 50)
  rw [World.size_alloc, World.size_alloc] at hn2
  have HB2 := Lib.hid (hn2)
  clear hn2
  have HBW := Lib.hid (below_alloc (below_alloc (below_alloc (Below.refl W.heap.size W) (.cells #[.string ⟨#[112]⟩, .int .i64 4, .int .i64 5, .int .i64 40, .slice none 0 0, .slice none 0 0, .slice (some ⟨pb, 0, none⟩) 1 c, .slice none 0 0, .slice none 0 0, .slice none 0 0, .slice none 0 0, .int .i64 0, .int .i64 0, .int .i64 0, .int .i64 0] 50)) (.cells #[.int .i64 1, .int .i64 0, .int .i64 0, .int .u32 7, .int .u8 1, .int .i64 16, .int .i64 4, .int .i64 0, .slice none 0 0, .int .i64 0, .int .i64 0, .bool false, .int .i64 0] 31)) (.cells #[.string ⟨#[]⟩, .int .i64 0, .int .i64 0, .int .i64 0, .slice none 0 0, .slice none 0 0, .slice none 0 0, .slice none 0 0, .slice none 0 0, .slice none 0 0, .slice none 0 0, .int .i64 0, .int .i64 0, .int .i64 0, .int .i64 0] 50))
  generalize ((W.alloc (.cells #[.string ⟨#[112]⟩, .int .i64 4, .int .i64 5, .int .i64 40, .slice none 0 0, .slice none 0 0, .slice (some ⟨pb, 0, none⟩) 1 c, .slice none 0 0, .slice none 0 0, .slice none 0 0, .slice none 0 0, .int .i64 0, .int .i64 0, .int .i64 0, .int .i64 0] 50)).alloc (.cells #[.int .i64 1, .int .i64 0, .int .i64 0, .int .u32 7, .int .u8 1, .int .i64 16, .int .i64 4, .int .i64 0, .slice none 0 0, .int .i64 0, .int .i64 0, .bool false, .int .i64 0] 31)).alloc (.cells #[.string ⟨#[]⟩, .int .i64 0, .int .i64 0, .int .i64 0, .slice none 0 0, .slice none 0 0, .slice none 0 0, .slice none 0 0, .slice none 0 0, .slice none 0 0, .slice none 0 0, .int .i64 0, .int .i64 0, .int .i64 0, .int .i64 0] 50) = W1 at *
  have HV1 := Lib.hid (HPV.out.below HBW.out)
  refine (rightPer HV1.out).mono ?_
  rintro e W2 ⟨rfl, hb⟩
  have HP2 := Lib.hid (blk_below HB0.out hb)
  have HX2 := Lib.hid (blk_below HB1.out hb)
  have HR2 := Lib.hid (blk_below HB2.out hb)
  have HV2 := Lib.hid (HV1.out.below hb)
  have HBX2 := Lib.hid (below_step HBW.out hb)
  clear hb HB0 HB1 HB2 HBW HV1 HPV
  have x0 : W2.cell? ⟨W.heap.size + 1, 0, none⟩ = some (.int .i64 1) := (blk_cell HX2.out 0).trans rfl
  have x1 : W2.cell? ⟨W.heap.size + 1, 1, none⟩ = some (.int .i64 0) := (blk_cell HX2.out 1).trans rfl
  have x2 : W2.cell? ⟨W.heap.size + 1, 2, none⟩ = some (.int .i64 0) := (blk_cell HX2.out 2).trans rfl
  have x3 : W2.cell? ⟨W.heap.size + 1, 3, none⟩ = some (.int .u32 7) := (blk_cell HX2.out 3).trans rfl
  have x4 : W2.cell? ⟨W.heap.size + 1, 4, none⟩ = some (.int .u8 1) := (blk_cell HX2.out 4).trans rfl
  have x5 : W2.cell? ⟨W.heap.size + 1, 5, none⟩ = some (.int .i64 16) := (blk_cell HX2.out 5).trans rfl
  have x6 : W2.cell? ⟨W.heap.size + 1, 6, none⟩ = some (.int .i64 4) := (blk_cell HX2.out 6).trans rfl
  have x7 : W2.cell? ⟨W.heap.size + 1, 7, none⟩ = some (.int .i64 0) := (blk_cell HX2.out 7).trans rfl
  have x8 : W2.cell? ⟨W.heap.size + 1, 8, none⟩ = some (.slice none 0 0) := (blk_cell HX2.out 8).trans rfl
  have x9 : W2.cell? ⟨W.heap.size + 1, 9, none⟩ = some (.int .i64 0) := (blk_cell HX2.out 9).trans rfl
  have x10 : W2.cell? ⟨W.heap.size + 1, 10, none⟩ = some (.int .i64 0) := (blk_cell HX2.out 10).trans rfl
  have x11 : W2.cell? ⟨W.heap.size + 1, 11, none⟩ = some (.bool false) := (blk_cell HX2.out 11).trans rfl
  have x12 : W2.cell? ⟨W.heap.size + 1, 12, none⟩ = some (.int .i64 0) := (blk_cell HX2.out 12).trans rfl
  go_wp2_with fail
  clear x0 x1 x2 x3 x4 x5 x6 x7 x8 x9 x10 x11 x12
  refine (WRight.right_c 1 0 0 7 1 16 4 0 none 0 [] 0 0 false 0 W2 (Kd.C_nil _ _) (Nat.le_refl _) _ _ _ _ _ _ WFacts.form).mono ?_
  rw [show WRight.right true false true false true 0 0 7 1 16 4 (WRight.none_ 0 [] 0 0 false 0) = true from by decide]
  rintro e W3 ⟨rfl, hb⟩
  have HP3 := Lib.hid (blk_below HP2.out hb)
  have HX3 := Lib.hid (blk_below HX2.out hb)
  have HR3 := Lib.hid (blk_below HR2.out hb)
  have HV3 := Lib.hid (HV2.out.below hb)
  have HBX3 := Lib.hid (below_step HBX2.out hb)
  clear hb HP2 HX2 HR2 HV2 HBX2
  have p0 : W3.cell? ⟨W.heap.size, 0, none⟩ = some (.string ⟨#[112]⟩) := (blk_cell HP3.out 0).trans rfl
  have p1 : W3.cell? ⟨W.heap.size, 1, none⟩ = some (.int .i64 4) := (blk_cell HP3.out 1).trans rfl
  have p2 : W3.cell? ⟨W.heap.size, 2, none⟩ = some (.int .i64 5) := (blk_cell HP3.out 2).trans rfl
  have p3 : W3.cell? ⟨W.heap.size, 3, none⟩ = some (.int .i64 40) := (blk_cell HP3.out 3).trans rfl
  have p4 : W3.cell? ⟨W.heap.size, 4, none⟩ = some (.slice none 0 0) := (blk_cell HP3.out 4).trans rfl
  have p5 : W3.cell? ⟨W.heap.size, 5, none⟩ = some (.slice none 0 0) := (blk_cell HP3.out 5).trans rfl
  have p6 : W3.cell? ⟨W.heap.size, 6, none⟩ = some (.slice (some ⟨pb, 0, none⟩) 1 c) := (blk_cell HP3.out 6).trans rfl
  have p7 : W3.cell? ⟨W.heap.size, 7, none⟩ = some (.slice none 0 0) := (blk_cell HP3.out 7).trans rfl
  have p8 : W3.cell? ⟨W.heap.size, 8, none⟩ = some (.slice none 0 0) := (blk_cell HP3.out 8).trans rfl
  have p9 : W3.cell? ⟨W.heap.size, 9, none⟩ = some (.slice none 0 0) := (blk_cell HP3.out 9).trans rfl
  have p10 : W3.cell? ⟨W.heap.size, 10, none⟩ = some (.slice none 0 0) := (blk_cell HP3.out 10).trans rfl
  have p11 : W3.cell? ⟨W.heap.size, 11, none⟩ = some (.int .i64 0) := (blk_cell HP3.out 11).trans rfl
  have p12 : W3.cell? ⟨W.heap.size, 12, none⟩ = some (.int .i64 0) := (blk_cell HP3.out 12).trans rfl
  have p13 : W3.cell? ⟨W.heap.size, 13, none⟩ = some (.int .i64 0) := (blk_cell HP3.out 13).trans rfl
  have p14 : W3.cell? ⟨W.heap.size, 14, none⟩ = some (.int .i64 0) := (blk_cell HP3.out 14).trans rfl
  have x0 : W3.cell? ⟨W.heap.size + 1, 0, none⟩ = some (.int .i64 1) := (blk_cell HX3.out 0).trans rfl
  have x1 : W3.cell? ⟨W.heap.size + 1, 1, none⟩ = some (.int .i64 0) := (blk_cell HX3.out 1).trans rfl
  have x2 : W3.cell? ⟨W.heap.size + 1, 2, none⟩ = some (.int .i64 0) := (blk_cell HX3.out 2).trans rfl
  have x3 : W3.cell? ⟨W.heap.size + 1, 3, none⟩ = some (.int .u32 7) := (blk_cell HX3.out 3).trans rfl
  have x4 : W3.cell? ⟨W.heap.size + 1, 4, none⟩ = some (.int .u8 1) := (blk_cell HX3.out 4).trans rfl
  have x5 : W3.cell? ⟨W.heap.size + 1, 5, none⟩ = some (.int .i64 16) := (blk_cell HX3.out 5).trans rfl
  have x6 : W3.cell? ⟨W.heap.size + 1, 6, none⟩ = some (.int .i64 4) := (blk_cell HX3.out 6).trans rfl
  have x7 : W3.cell? ⟨W.heap.size + 1, 7, none⟩ = some (.int .i64 0) := (blk_cell HX3.out 7).trans rfl
  have x8 : W3.cell? ⟨W.heap.size + 1, 8, none⟩ = some (.slice none 0 0) := (blk_cell HX3.out 8).trans rfl
  have x9 : W3.cell? ⟨W.heap.size + 1, 9, none⟩ = some (.int .i64 0) := (blk_cell HX3.out 9).trans rfl
  have x10 : W3.cell? ⟨W.heap.size + 1, 10, none⟩ = some (.int .i64 0) := (blk_cell HX3.out 10).trans rfl
  have x11 : W3.cell? ⟨W.heap.size + 1, 11, none⟩ = some (.bool false) := (blk_cell HX3.out 11).trans rfl
  have x12 : W3.cell? ⟨W.heap.size + 1, 12, none⟩ = some (.int .i64 0) := (blk_cell HX3.out 12).trans rfl
  go_wp2_with fail
  clear x0 x1 x2 x3 x4 x5 x6 x7 x8 x9 x10 x11 x12 p0 p1 p2 p3 p4 p5 p6 p7 p8 p9 p10 p11 p12 p13 p14
  refine (WBack.there1 W3 (some ⟨pb, 0, none⟩) c).mono ?_
  rintro e W4 ⟨rfl, hb⟩
  have HP4 := Lib.hid (blk_below HP3.out hb)
  have HX4 := Lib.hid (blk_below HX3.out hb)
  have HR4 := Lib.hid (blk_below HR3.out hb)
  have HV4 := Lib.hid (HV3.out.below hb)
  have HBX4 := Lib.hid (below_step HBX3.out hb)
  clear hb HP3 HX3 HR3 HV3 HBX3
  have p0 : W4.cell? ⟨W.heap.size, 0, none⟩ = some (.string ⟨#[112]⟩) := (blk_cell HP4.out 0).trans rfl
  have p1 : W4.cell? ⟨W.heap.size, 1, none⟩ = some (.int .i64 4) := (blk_cell HP4.out 1).trans rfl
  have p2 : W4.cell? ⟨W.heap.size, 2, none⟩ = some (.int .i64 5) := (blk_cell HP4.out 2).trans rfl
  have p3 : W4.cell? ⟨W.heap.size, 3, none⟩ = some (.int .i64 40) := (blk_cell HP4.out 3).trans rfl
  have p4 : W4.cell? ⟨W.heap.size, 4, none⟩ = some (.slice none 0 0) := (blk_cell HP4.out 4).trans rfl
  have p5 : W4.cell? ⟨W.heap.size, 5, none⟩ = some (.slice none 0 0) := (blk_cell HP4.out 5).trans rfl
  have p6 : W4.cell? ⟨W.heap.size, 6, none⟩ = some (.slice (some ⟨pb, 0, none⟩) 1 c) := (blk_cell HP4.out 6).trans rfl
  have p7 : W4.cell? ⟨W.heap.size, 7, none⟩ = some (.slice none 0 0) := (blk_cell HP4.out 7).trans rfl
  have p8 : W4.cell? ⟨W.heap.size, 8, none⟩ = some (.slice none 0 0) := (blk_cell HP4.out 8).trans rfl
  have p9 : W4.cell? ⟨W.heap.size, 9, none⟩ = some (.slice none 0 0) := (blk_cell HP4.out 9).trans rfl
  have p10 : W4.cell? ⟨W.heap.size, 10, none⟩ = some (.slice none 0 0) := (blk_cell HP4.out 10).trans rfl
  have p11 : W4.cell? ⟨W.heap.size, 11, none⟩ = some (.int .i64 0) := (blk_cell HP4.out 11).trans rfl
  have p12 : W4.cell? ⟨W.heap.size, 12, none⟩ = some (.int .i64 0) := (blk_cell HP4.out 12).trans rfl
  have p13 : W4.cell? ⟨W.heap.size, 13, none⟩ = some (.int .i64 0) := (blk_cell HP4.out 13).trans rfl
  have p14 : W4.cell? ⟨W.heap.size, 14, none⟩ = some (.int .i64 0) := (blk_cell HP4.out 14).trans rfl
  go_wp2_with fail
  clear p0 p1 p2 p3 p4 p5 p6 p7 p8 p9 p10 p11 p12 p13 p14
  refine (WCopy.copy_c W4 lo false _ HV4.out).mono ?_
  rintro e W5 ⟨vq, rfl, hvq, hb⟩
  have HX5 := Lib.hid (blk_below HX4.out hb)
  have HR5 := Lib.hid (blk_below HR4.out hb)
  have HBX5 := Lib.hid (below_step HBX4.out hb)
  obtain ⟨nb, c2, a2, rest2, rfl, hc2, hlo2, hn2, ht2⟩ := hvq
  have hlo3 : W.heap.size ≤ nb := Nat.le_trans HBX4.out.size hlo2
  have HN5 := Lib.hid hn2
  have HT5 := Lib.hid ht2
  clear hb hn2 ht2 HP4 HX4 HR4 HV4 HBX4
  unfold prob
  have HX6 := Lib.hid (blk_alloc HX5.out (.cells #[.string ⟨#[112]⟩, .int .i64 4, .int .i64 5, .int .i64 40, .slice none 0 0, .slice none 0 0, .slice (some ⟨nb, 0, none⟩) 1 c2, .slice none 0 0, .slice none 0 0, .slice none 0 0, .slice none 0 0, .int .i64 0, .int .i64 0, .int .i64 0, .int .i64 0] 50))
  have x0 : (W5.alloc (.cells #[.string ⟨#[112]⟩, .int .i64 4, .int .i64 5, .int .i64 40, .slice none 0 0, .slice none 0 0, .slice (some ⟨nb, 0, none⟩) 1 c2, .slice none 0 0, .slice none 0 0, .slice none 0 0, .slice none 0 0, .int .i64 0, .int .i64 0, .int .i64 0, .int .i64 0] 50)).cell? ⟨W.heap.size + 1, 0, none⟩ = some (.int .i64 1) := (blk_cell HX6.out 0).trans rfl
  have x1 : (W5.alloc (.cells #[.string ⟨#[112]⟩, .int .i64 4, .int .i64 5, .int .i64 40, .slice none 0 0, .slice none 0 0, .slice (some ⟨nb, 0, none⟩) 1 c2, .slice none 0 0, .slice none 0 0, .slice none 0 0, .slice none 0 0, .int .i64 0, .int .i64 0, .int .i64 0, .int .i64 0] 50)).cell? ⟨W.heap.size + 1, 1, none⟩ = some (.int .i64 0) := (blk_cell HX6.out 1).trans rfl
  have x2 : (W5.alloc (.cells #[.string ⟨#[112]⟩, .int .i64 4, .int .i64 5, .int .i64 40, .slice none 0 0, .slice none 0 0, .slice (some ⟨nb, 0, none⟩) 1 c2, .slice none 0 0, .slice none 0 0, .slice none 0 0, .slice none 0 0, .int .i64 0, .int .i64 0, .int .i64 0, .int .i64 0] 50)).cell? ⟨W.heap.size + 1, 2, none⟩ = some (.int .i64 0) := (blk_cell HX6.out 2).trans rfl
  have x3 : (W5.alloc (.cells #[.string ⟨#[112]⟩, .int .i64 4, .int .i64 5, .int .i64 40, .slice none 0 0, .slice none 0 0, .slice (some ⟨nb, 0, none⟩) 1 c2, .slice none 0 0, .slice none 0 0, .slice none 0 0, .slice none 0 0, .int .i64 0, .int .i64 0, .int .i64 0, .int .i64 0] 50)).cell? ⟨W.heap.size + 1, 3, none⟩ = some (.int .u32 7) := (blk_cell HX6.out 3).trans rfl
  have x4 : (W5.alloc (.cells #[.string ⟨#[112]⟩, .int .i64 4, .int .i64 5, .int .i64 40, .slice none 0 0, .slice none 0 0, .slice (some ⟨nb, 0, none⟩) 1 c2, .slice none 0 0, .slice none 0 0, .slice none 0 0, .slice none 0 0, .int .i64 0, .int .i64 0, .int .i64 0, .int .i64 0] 50)).cell? ⟨W.heap.size + 1, 4, none⟩ = some (.int .u8 1) := (blk_cell HX6.out 4).trans rfl
  have x5 : (W5.alloc (.cells #[.string ⟨#[112]⟩, .int .i64 4, .int .i64 5, .int .i64 40, .slice none 0 0, .slice none 0 0, .slice (some ⟨nb, 0, none⟩) 1 c2, .slice none 0 0, .slice none 0 0, .slice none 0 0, .slice none 0 0, .int .i64 0, .int .i64 0, .int .i64 0, .int .i64 0] 50)).cell? ⟨W.heap.size + 1, 5, none⟩ = some (.int .i64 16) := (blk_cell HX6.out 5).trans rfl
  have x6 : (W5.alloc (.cells #[.string ⟨#[112]⟩, .int .i64 4, .int .i64 5, .int .i64 40, .slice none 0 0, .slice none 0 0, .slice (some ⟨nb, 0, none⟩) 1 c2, .slice none 0 0, .slice none 0 0, .slice none 0 0, .slice none 0 0, .int .i64 0, .int .i64 0, .int .i64 0, .int .i64 0] 50)).cell? ⟨W.heap.size + 1, 6, none⟩ = some (.int .i64 4) := (blk_cell HX6.out 6).trans rfl
  have x7 : (W5.alloc (.cells #[.string ⟨#[112]⟩, .int .i64 4, .int .i64 5, .int .i64 40, .slice none 0 0, .slice none 0 0, .slice (some ⟨nb, 0, none⟩) 1 c2, .slice none 0 0, .slice none 0 0, .slice none 0 0, .slice none 0 0, .int .i64 0, .int .i64 0, .int .i64 0, .int .i64 0] 50)).cell? ⟨W.heap.size + 1, 7, none⟩ = some (.int .i64 0) := (blk_cell HX6.out 7).trans rfl
  have x8 : (W5.alloc (.cells #[.string ⟨#[112]⟩, .int .i64 4, .int .i64 5, .int .i64 40, .slice none 0 0, .slice none 0 0, .slice (some ⟨nb, 0, none⟩) 1 c2, .slice none 0 0, .slice none 0 0, .slice none 0 0, .slice none 0 0, .int .i64 0, .int .i64 0, .int .i64 0, .int .i64 0] 50)).cell? ⟨W.heap.size + 1, 8, none⟩ = some (.slice none 0 0) := (blk_cell HX6.out 8).trans rfl
  have x9 : (W5.alloc (.cells #[.string ⟨#[112]⟩, .int .i64 4, .int .i64 5, .int .i64 40, .slice none 0 0, .slice none 0 0, .slice (some ⟨nb, 0, none⟩) 1 c2, .slice none 0 0, .slice none 0 0, .slice none 0 0, .slice none 0 0, .int .i64 0, .int .i64 0, .int .i64 0, .int .i64 0] 50)).cell? ⟨W.heap.size + 1, 9, none⟩ = some (.int .i64 0) := (blk_cell HX6.out 9).trans rfl
  have x10 : (W5.alloc (.cells #[.string ⟨#[112]⟩, .int .i64 4, .int .i64 5, .int .i64 40, .slice none 0 0, .slice none 0 0, .slice (some ⟨nb, 0, none⟩) 1 c2, .slice none 0 0, .slice none 0 0, .slice none 0 0, .slice none 0 0, .int .i64 0, .int .i64 0, .int .i64 0, .int .i64 0] 50)).cell? ⟨W.heap.size + 1, 10, none⟩ = some (.int .i64 0) := (blk_cell HX6.out 10).trans rfl
  have x11 : (W5.alloc (.cells #[.string ⟨#[112]⟩, .int .i64 4, .int .i64 5, .int .i64 40, .slice none 0 0, .slice none 0 0, .slice (some ⟨nb, 0, none⟩) 1 c2, .slice none 0 0, .slice none 0 0, .slice none 0 0, .slice none 0 0, .int .i64 0, .int .i64 0, .int .i64 0, .int .i64 0] 50)).cell? ⟨W.heap.size + 1, 11, none⟩ = some (.bool false) := (blk_cell HX6.out 11).trans rfl
  have x12 : (W5.alloc (.cells #[.string ⟨#[112]⟩, .int .i64 4, .int .i64 5, .int .i64 40, .slice none 0 0, .slice none 0 0, .slice (some ⟨nb, 0, none⟩) 1 c2, .slice none 0 0, .slice none 0 0, .slice none 0 0, .slice none 0 0, .int .i64 0, .int .i64 0, .int .i64 0, .int .i64 0] 50)).cell? ⟨W.heap.size + 1, 12, none⟩ = some (.int .i64 0) := (blk_cell HX6.out 12).trans rfl
  go_wp2_with fail
  clear x0 x1 x2 x3 x4 x5 x6 x7 x8 x9 x10 x11 x12
  have HR6 := Lib.hid (blk_alloc HR5.out (.cells #[.string ⟨#[112]⟩, .int .i64 4, .int .i64 5, .int .i64 40, .slice none 0 0, .slice none 0 0, .slice (some ⟨nb, 0, none⟩) 1 c2, .slice none 0 0, .slice none 0 0, .slice none 0 0, .slice none 0 0, .int .i64 0, .int .i64 0, .int .i64 0, .int .i64 0] 50))
  have HA6 : Hid (WTimes.At (W5.alloc (.cells #[.string ⟨#[112]⟩, .int .i64 4, .int .i64 5, .int .i64 40, .slice none 0 0, .slice none 0 0, .slice (some ⟨nb, 0, none⟩) 1 c2, .slice none 0 0, .slice none 0 0, .slice none 0 0, .slice none 0 0, .int .i64 0, .int .i64 0, .int .i64 0, .int .i64 0] 50)) W5.heap.size nb c2 a2 rest2) := Lib.hid ⟨blk_new W5 _, blk_alloc HN5.out _⟩
  have HT6 := Lib.hid (HT5.out.below (below_alloc (Below.refl W5.heap.size W5) (.cells #[.string ⟨#[112]⟩, .int .i64 4, .int .i64 5, .int .i64 40, .slice none 0 0, .slice none 0 0, .slice (some ⟨nb, 0, none⟩) 1 c2, .slice none 0 0, .slice none 0 0, .slice none 0 0, .slice none 0 0, .int .i64 0, .int .i64 0, .int .i64 0, .int .i64 0] 50)))
  have HBX6 := Lib.hid (below_alloc HBX5.out (.cells #[.string ⟨#[112]⟩, .int .i64 4, .int .i64 5, .int .i64 40, .slice none 0 0, .slice none 0 0, .slice (some ⟨nb, 0, none⟩) 1 c2, .slice none 0 0, .slice none 0 0, .slice none 0 0, .slice none 0 0, .int .i64 0, .int .i64 0, .int .i64 0, .int .i64 0] 50))
  clear HX5 HR5 HN5 HT5 HBX5 HX6
  generalize W5.alloc (.cells #[.string ⟨#[112]⟩, .int .i64 4, .int .i64 5, .int .i64 40, .slice none 0 0, .slice none 0 0, .slice (some ⟨nb, 0, none⟩) 1 c2, .slice none 0 0, .slice none 0 0, .slice none 0 0, .slice none 0 0, .int .i64 0, .int .i64 0, .int .i64 0, .int .i64 0] 50) = W6 at *
  generalize W5.heap.size = qb at *
  refine (WTimes.change1 W6 _ qb nb c2 hc2 a2 rest2 HA6.out HT6.out).mono ?_
  rintro e W7 ⟨a7, rfl, ha7, ht7, hf7⟩
  have hP7 : Per W7 W.heap.size true (.slice (some ⟨nb, 0, none⟩) 1 c2) := ⟨nb, c2, a7, rest2, rfl, hc2, hlo3, ha7.n, ht7.mono HBX6.out.size⟩
  have HP7 := Lib.hid hP7
  have HQ7 := Lib.hid ha7.q
  have HR7 := Lib.hid ((hf7.block _ (blk_lt HR6.out) (blk_ne HR6.out HA6.out.n (by decide))).trans HR6.out)
  have HBX7 := Lib.hid (Fr.below HBX6.out hf7 hlo3)
  clear hP7 ha7 ht7 hf7 HA6 HT6 HR6 HBX6
  have q0 : W7.cell? ⟨qb, 0, none⟩ = some (.string ⟨#[112]⟩) := (blk_cell HQ7.out 0).trans rfl
  have q1 : W7.cell? ⟨qb, 1, none⟩ = some (.int .i64 4) := (blk_cell HQ7.out 1).trans rfl
  have q2 : W7.cell? ⟨qb, 2, none⟩ = some (.int .i64 5) := (blk_cell HQ7.out 2).trans rfl
  have q3 : W7.cell? ⟨qb, 3, none⟩ = some (.int .i64 40) := (blk_cell HQ7.out 3).trans rfl
  have q4 : W7.cell? ⟨qb, 4, none⟩ = some (.slice none 0 0) := (blk_cell HQ7.out 4).trans rfl
  have q5 : W7.cell? ⟨qb, 5, none⟩ = some (.slice none 0 0) := (blk_cell HQ7.out 5).trans rfl
  have q6 : W7.cell? ⟨qb, 6, none⟩ = some (.slice (some ⟨nb, 0, none⟩) 1 c2) := (blk_cell HQ7.out 6).trans rfl
  have q7 : W7.cell? ⟨qb, 7, none⟩ = some (.slice none 0 0) := (blk_cell HQ7.out 7).trans rfl
  have q8 : W7.cell? ⟨qb, 8, none⟩ = some (.slice none 0 0) := (blk_cell HQ7.out 8).trans rfl
  have q9 : W7.cell? ⟨qb, 9, none⟩ = some (.slice none 0 0) := (blk_cell HQ7.out 9).trans rfl
  have q10 : W7.cell? ⟨qb, 10, none⟩ = some (.slice none 0 0) := (blk_cell HQ7.out 10).trans rfl
  have q11 : W7.cell? ⟨qb, 11, none⟩ = some (.int .i64 0) := (blk_cell HQ7.out 11).trans rfl
  have q12 : W7.cell? ⟨qb, 12, none⟩ = some (.int .i64 0) := (blk_cell HQ7.out 12).trans rfl
  have q13 : W7.cell? ⟨qb, 13, none⟩ = some (.int .i64 0) := (blk_cell HQ7.out 13).trans rfl
  have q14 : W7.cell? ⟨qb, 14, none⟩ = some (.int .i64 0) := (blk_cell HQ7.out 14).trans rfl
  go_wp2_with fail
  clear q0 q1 q2 q3 q4 q5 q6 q7 q8 q9 q10 q11 q12 q13 q14
  refine (rightPer HP7.out).mono ?_
  rintro e W8 ⟨rfl, hb⟩
  have HP8 := Lib.hid (HP7.out.below hb)
  have HQ8 := Lib.hid (blk_below HQ7.out hb)
  have HR8 := Lib.hid (blk_below HR7.out hb)
  have HBX8 := Lib.hid (below_step HBX7.out hb)
  clear hb HP7 HQ7 HR7 HBX7
  have q0 : W8.cell? ⟨qb, 0, none⟩ = some (.string ⟨#[112]⟩) := (blk_cell HQ8.out 0).trans rfl
  have q1 : W8.cell? ⟨qb, 1, none⟩ = some (.int .i64 4) := (blk_cell HQ8.out 1).trans rfl
  have q2 : W8.cell? ⟨qb, 2, none⟩ = some (.int .i64 5) := (blk_cell HQ8.out 2).trans rfl
  have q3 : W8.cell? ⟨qb, 3, none⟩ = some (.int .i64 40) := (blk_cell HQ8.out 3).trans rfl
  have q4 : W8.cell? ⟨qb, 4, none⟩ = some (.slice none 0 0) := (blk_cell HQ8.out 4).trans rfl
  have q5 : W8.cell? ⟨qb, 5, none⟩ = some (.slice none 0 0) := (blk_cell HQ8.out 5).trans rfl
  have q6 : W8.cell? ⟨qb, 6, none⟩ = some (.slice (some ⟨nb, 0, none⟩) 1 c2) := (blk_cell HQ8.out 6).trans rfl
  have q7 : W8.cell? ⟨qb, 7, none⟩ = some (.slice none 0 0) := (blk_cell HQ8.out 7).trans rfl
  have q8 : W8.cell? ⟨qb, 8, none⟩ = some (.slice none 0 0) := (blk_cell HQ8.out 8).trans rfl
  have q9 : W8.cell? ⟨qb, 9, none⟩ = some (.slice none 0 0) := (blk_cell HQ8.out 9).trans rfl
  have q10 : W8.cell? ⟨qb, 10, none⟩ = some (.slice none 0 0) := (blk_cell HQ8.out 10).trans rfl
  have q11 : W8.cell? ⟨qb, 11, none⟩ = some (.int .i64 0) := (blk_cell HQ8.out 11).trans rfl
  have q12 : W8.cell? ⟨qb, 12, none⟩ = some (.int .i64 0) := (blk_cell HQ8.out 12).trans rfl
  have q13 : W8.cell? ⟨qb, 13, none⟩ = some (.int .i64 0) := (blk_cell HQ8.out 13).trans rfl
  have q14 : W8.cell? ⟨qb, 14, none⟩ = some (.int .i64 0) := (blk_cell HQ8.out 14).trans rfl
  have z0 : W8.cell? ⟨W.heap.size + 1 + 1, 0, none⟩ = some (.string ⟨#[]⟩) := (blk_cell HR8.out 0).trans rfl
  have fz0 : W8.frozen? ⟨W.heap.size + 1 + 1, 0, none⟩ = false := blk_frozen HR8.out 0
  have z1 : W8.cell? ⟨W.heap.size + 1 + 1, 1, none⟩ = some (.int .i64 0) := (blk_cell HR8.out 1).trans rfl
  have fz1 : W8.frozen? ⟨W.heap.size + 1 + 1, 1, none⟩ = false := blk_frozen HR8.out 1
  have z2 : W8.cell? ⟨W.heap.size + 1 + 1, 2, none⟩ = some (.int .i64 0) := (blk_cell HR8.out 2).trans rfl
  have fz2 : W8.frozen? ⟨W.heap.size + 1 + 1, 2, none⟩ = false := blk_frozen HR8.out 2
  have z3 : W8.cell? ⟨W.heap.size + 1 + 1, 3, none⟩ = some (.int .i64 0) := (blk_cell HR8.out 3).trans rfl
  have fz3 : W8.frozen? ⟨W.heap.size + 1 + 1, 3, none⟩ = false := blk_frozen HR8.out 3
  have z4 : W8.cell? ⟨W.heap.size + 1 + 1, 4, none⟩ = some (.slice none 0 0) := (blk_cell HR8.out 4).trans rfl
  have fz4 : W8.frozen? ⟨W.heap.size + 1 + 1, 4, none⟩ = false := blk_frozen HR8.out 4
  have z5 : W8.cell? ⟨W.heap.size + 1 + 1, 5, none⟩ = some (.slice none 0 0) := (blk_cell HR8.out 5).trans rfl
  have fz5 : W8.frozen? ⟨W.heap.size + 1 + 1, 5, none⟩ = false := blk_frozen HR8.out 5
  have z6 : W8.cell? ⟨W.heap.size + 1 + 1, 6, none⟩ = some (.slice none 0 0) := (blk_cell HR8.out 6).trans rfl
  have fz6 : W8.frozen? ⟨W.heap.size + 1 + 1, 6, none⟩ = false := blk_frozen HR8.out 6
  have z7 : W8.cell? ⟨W.heap.size + 1 + 1, 7, none⟩ = some (.slice none 0 0) := (blk_cell HR8.out 7).trans rfl
  have fz7 : W8.frozen? ⟨W.heap.size + 1 + 1, 7, none⟩ = false := blk_frozen HR8.out 7
  have z8 : W8.cell? ⟨W.heap.size + 1 + 1, 8, none⟩ = some (.slice none 0 0) := (blk_cell HR8.out 8).trans rfl
  have fz8 : W8.frozen? ⟨W.heap.size + 1 + 1, 8, none⟩ = false := blk_frozen HR8.out 8
  have z9 : W8.cell? ⟨W.heap.size + 1 + 1, 9, none⟩ = some (.slice none 0 0) := (blk_cell HR8.out 9).trans rfl
  have fz9 : W8.frozen? ⟨W.heap.size + 1 + 1, 9, none⟩ = false := blk_frozen HR8.out 9
  have z10 : W8.cell? ⟨W.heap.size + 1 + 1, 10, none⟩ = some (.slice none 0 0) := (blk_cell HR8.out 10).trans rfl
  have fz10 : W8.frozen? ⟨W.heap.size + 1 + 1, 10, none⟩ = false := blk_frozen HR8.out 10
  have z11 : W8.cell? ⟨W.heap.size + 1 + 1, 11, none⟩ = some (.int .i64 0) := (blk_cell HR8.out 11).trans rfl
  have fz11 : W8.frozen? ⟨W.heap.size + 1 + 1, 11, none⟩ = false := blk_frozen HR8.out 11
  have z12 : W8.cell? ⟨W.heap.size + 1 + 1, 12, none⟩ = some (.int .i64 0) := (blk_cell HR8.out 12).trans rfl
  have fz12 : W8.frozen? ⟨W.heap.size + 1 + 1, 12, none⟩ = false := blk_frozen HR8.out 12
  have z13 : W8.cell? ⟨W.heap.size + 1 + 1, 13, none⟩ = some (.int .i64 0) := (blk_cell HR8.out 13).trans rfl
  have fz13 : W8.frozen? ⟨W.heap.size + 1 + 1, 13, none⟩ = false := blk_frozen HR8.out 13
  have z14 : W8.cell? ⟨W.heap.size + 1 + 1, 14, none⟩ = some (.int .i64 0) := (blk_cell HR8.out 14).trans rfl
  have fz14 : W8.frozen? ⟨W.heap.size + 1 + 1, 14, none⟩ = false := blk_frozen HR8.out 14
  have HF := Lib.hid ((((((((((((((((Fr.refl W8 (W.heap.size + 1 + 1)).set (W.heap.size + 1 + 1) 0 (.inl rfl) (.string ⟨#[112]⟩)).set (W.heap.size + 1 + 1) 1 (.inl rfl) (.int .i64 4)).set (W.heap.size + 1 + 1) 2 (.inl rfl) (.int .i64 5)).set (W.heap.size + 1 + 1) 3 (.inl rfl) (.int .i64 40)).set (W.heap.size + 1 + 1) 4 (.inl rfl) (.slice none 0 0)).set (W.heap.size + 1 + 1) 5 (.inl rfl) (.slice none 0 0)).set (W.heap.size + 1 + 1) 6 (.inl rfl) (.slice (some ⟨nb, 0, none⟩) 1 c2)).set (W.heap.size + 1 + 1) 7 (.inl rfl) (.slice none 0 0)).set (W.heap.size + 1 + 1) 8 (.inl rfl) (.slice none 0 0)).set (W.heap.size + 1 + 1) 9 (.inl rfl) (.slice none 0 0)).set (W.heap.size + 1 + 1) 10 (.inl rfl) (.slice none 0 0)).set (W.heap.size + 1 + 1) 11 (.inl rfl) (.int .i64 0)).set (W.heap.size + 1 + 1) 12 (.inl rfl) (.int .i64 0)).set (W.heap.size + 1 + 1) 13 (.inl rfl) (.int .i64 0)).set (W.heap.size + 1 + 1) 14 (.inl rfl) (.int .i64 0))
  go_wp2_with fail
  refine bodyPost_ret (results_ct rfl _ _ (W.heap.size + 1 + 1) 50 #[.string ⟨#[112]⟩, .int .i64 4, .int .i64 5, .int .i64 40, .slice none 0 0, .slice none 0 0, .slice (some ⟨nb, 0, none⟩) 1 c2, .slice none 0 0, .slice none 0 0, .slice none 0 0, .slice none 0 0, .int .i64 0, .int .i64 0, .int .i64 0, .int .i64 0] (0, 0) _ rfl (blk_set (blk_set (blk_set (blk_set (blk_set (blk_set (blk_set (blk_set (blk_set (blk_set (blk_set (blk_set (blk_set (blk_set (blk_set HR8.out 0 _) 1 _) 2 _) 3 _) 4 _) 5 _) 6 _) 7 _) 8 _) 9 _) 10 _) 11 _) 12 _) 13 _) 14 _) Tryz.underlying50 rfl (by kernel_rfl)) rfl ?_
  refine ⟨.slice (some ⟨nb, 0, none⟩) 1 c2, rfl, ?_, Fr.below HBX8.out HF.out (by show W.heap.size ≤ W.heap.size + 1 + 1; omega)⟩
  exact WCopy.Per.fr HP8.out HF.out HR8.out (by decide) (by decide)
end Go.Proofs.YtklgecdklngekaaGreatDoor.WDo1
