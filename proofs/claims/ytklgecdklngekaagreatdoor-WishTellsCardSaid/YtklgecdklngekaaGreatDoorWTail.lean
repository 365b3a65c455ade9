/- The example's last row -/
import Derived.Test.YtklgecdklngekaaGreatDoorWUndoW
import Derived.Test.YtklgecdklngekaaGreatDoorWDo2
import Derived.Test.YtklgecdklngekaaGreatDoorWDo5
import Derived.Test.YtklgecdklngekaaGreatDoorWSame
import Derived.Test.YtklgecdklngekaaGreatDoorWPrint
import Derived.Test.YtklgecdklngekaaGreatDoorWParse
namespace Go.Proofs.YtklgecdklngekaaGreatDoor.WTail
set_option linter.unusedVariables false
set_option linter.unusedSimpArgs false
open Go.RowKit Go.Proofs.YtklgecdklngekaaGreatDoorW.PrintWords Go.Proofs.YtklgecdklngekaaGreatDoorW.PrintLast Go.Proofs.YtklgecdklngekaaGreatDoor.Q Go.Proofs.YtklgecdklngekaaGreatDoor.WPers Go.Proofs.YtklgecdklngekaaGreatDoor.WExm
theorem printL (W : World) : Calls Tryz.prog 10 #[.agg #[.int .i64 4, .int .i64 5, .int .i64 40], .agg #[.int .i64 1, .int .i64 0, .int .i64 0, .int .u32 7, .int .u8 1, .int .i64 16, .int .i64 4, .int .i64 0, .slice none 0 0, .int .i64 0, .int .i64 0, .bool false, .int .i64 0]] W fun e w' => e = .returned (.tuple #[.string ⟨#[97, 119, 97, 121, 32, 48, 32, 49, 45, 51, 32, 109, 32, 49, 54, 43, 52]⟩, .int .i64 0]) ∧ Below W.heap.size W w' := WPrint.print_c W
theorem parseL (W : World) : Calls Tryz.prog 11 #[.agg #[.int .i64 4, .int .i64 5, .int .i64 40], .string ⟨#[97, 119, 97, 121, 32, 48, 32, 49, 45, 51, 32, 109, 32, 49, 54, 43, 52]⟩] W fun e w' => e = .returned (.tuple #[.agg #[.int .i64 1, .int .i64 0, .int .i64 0, .int .u32 7, .int .u8 1, .int .i64 16, .int .i64 4, .int .i64 0, .slice none 0 0, .int .i64 0, .int .i64 0, .bool false, .int .i64 0], .int .i64 0]) ∧ Below W.heap.size W w' := WParse.parse_c W
theorem sameA (W : World) : Calls Tryz.prog 9 #[.agg #[.int .i64 1, .int .i64 0, .int .i64 0, .int .u32 7, .int .u8 1, .int .i64 16, .int .i64 4, .int .i64 0, .slice none 0 0, .int .i64 0, .int .i64 0, .bool false, .int .i64 0], .agg #[.int .i64 1, .int .i64 0, .int .i64 0, .int .u32 7, .int .u8 1, .int .i64 16, .int .i64 4, .int .i64 0, .slice none 0 0, .int .i64 0, .int .i64 0, .bool false, .int .i64 0]] W fun e w' => e = .returned (.bool true) ∧ Below W.heap.size W w' :=
  horariumref44_Same.calls 5 1 0 0 7 1 16 4 0 none 0 [] 0 0 false 0 1 0 0 7 1 16 4 0 none 0 [] 0 0 false 0 true W (Kd.C_nil _ _) (Nat.le_refl _) (Kd.C_nil _ _) (Nat.le_refl _) (by kernel_rfl)
theorem sameH (W : World) : Calls Tryz.prog 9 #[.agg #[.int .i64 2, .int .i64 0, .int .i64 0, .int .u32 7, .int .u8 1, .int .i64 16, .int .i64 4, .int .i64 0, .slice none 0 0, .int .i64 0, .int .i64 0, .bool false, .int .i64 0], .agg #[.int .i64 2, .int .i64 0, .int .i64 0, .int .u32 7, .int .u8 1, .int .i64 16, .int .i64 4, .int .i64 0, .slice none 0 0, .int .i64 0, .int .i64 0, .bool false, .int .i64 0]] W fun e w' => e = .returned (.bool true) ∧ Below W.heap.size W w' :=
  horariumref44_Same.calls 5 2 0 0 7 1 16 4 0 none 0 [] 0 0 false 0 2 0 0 7 1 16 4 0 none 0 [] 0 0 false 0 true W (Kd.C_nil _ _) (Nat.le_refl _) (Kd.C_nil _ _) (Nat.le_refl _) (by kernel_rfl)
theorem rightA (W : World) : Calls Tryz.prog 6 #[.agg #[.int .i64 1, .int .i64 0, .int .i64 0, .int .u32 7, .int .u8 1, .int .i64 16, .int .i64 4, .int .i64 0, .slice none 0 0, .int .i64 0, .int .i64 0, .bool false, .int .i64 0]] W fun e w' => e = .returned (.bool true) ∧ Below W.heap.size W w' := by
  refine (WRight.right_c 1 0 0 7 1 16 4 0 none 0 [] 0 0 false 0 W (Kd.C_nil _ _) (Nat.le_refl _) _ _ _ _ _ _ WFacts.form).mono ?_
  rw [show WRight.right true false true false true 0 0 7 1 16 4 (WRight.none_ 0 [] 0 0 false 0) = true from by decide]
  exact fun e w' h => h
def dropSeq : Nat → Code → Code
  | 0, c => c
  | n + 1, .seq _ b => dropSeq n b
  | _ + 1, c => c
def headOf : Code → Code
  | .seq a _ => a
  | c => c
noncomputable def reg11 : Code := headOf ((Tryz.f5.body.map (dropSeq 11)).getD .skip)
set_option maxHeartbeats 16000000 in
set_option maxRecDepth 100000 in
theorem tail (WC : World) (lo lo2 b1 b3 b4 yb qb ub zb pb nb zn tb c1 c2 c3 c4 : Nat) (rest2 : List Value) (hc2 : 1 ≤ c2) (hT : WC.heap[b1]? = some (.cells #[.int .u32 7, .int .u8 1, .int .i64 16, .int .i64 4] 25 (0, 0))) (hP : WC.heap[b3]? = some (.cells #[.string ⟨#[112]⟩, .int .i64 4, .int .i64 5, .int .i64 40, .slice none 0 0, .slice none 0 0, .slice (some ⟨pb, 0, none⟩) 1 c1, .slice none 0 0, .slice none 0 0, .slice none 0 0, .slice none 0 0, .int .i64 0, .int .i64 0, .int .i64 0, .int .i64 0] 50 (0, 0))) (hX : WC.heap[b4]? = some (.cells #[.int .i64 1, .int .i64 0, .int .i64 0, .int .u32 7, .int .u8 1, .int .i64 16, .int .i64 4, .int .i64 0, .slice none 0 0, .int .i64 0, .int .i64 0, .bool false, .int .i64 0] 31 (0, 0))) (hY : WC.heap[yb]? = some (.cells #[.int .i64 1, .int .i64 0, .int .i64 0, .int .u32 7, .int .u8 1, .int .i64 16, .int .i64 4, .int .i64 0, .slice none 0 0, .int .i64 0, .int .i64 0, .bool false, .int .i64 0] 31 (0, 0))) (hQ : WC.heap[qb]? = some (.cells #[.string ⟨#[112]⟩, .int .i64 4, .int .i64 5, .int .i64 40, .slice none 0 0, .slice none 0 0, .slice (some ⟨nb, 0, none⟩) 1 c2, .slice none 0 0, .slice none 0 0, .slice none 0 0, .slice none 0 0, .int .i64 0, .int .i64 0, .int .i64 0, .int .i64 0] 50 (0, 0))) (hU : WC.heap[ub]? = some (.cells #[.int .i64 2, .int .i64 0, .int .i64 0, .int .u32 7, .int .u8 1, .int .i64 16, .int .i64 4, .int .i64 0, .slice none 0 0, .int .i64 0, .int .i64 0, .bool false, .int .i64 0] 31 (0, 0))) (hZ : WC.heap[zb]? = some (.cells #[.string ⟨#[112]⟩, .int .i64 4, .int .i64 5, .int .i64 40, .slice none 0 0, .slice none 0 0, .slice (some ⟨zn, 0, none⟩) 1 c4, .slice none 0 0, .slice none 0 0, .slice none 0 0, .slice none 0 0, .int .i64 0, .int .i64 0, .int .i64 0, .int .i64 0] 50 (0, 0))) (hN : WC.heap[nb]? = some (.cells (([.string ⟨#[120]⟩, .slice (some ⟨tb, 0, none⟩) 1 c3] : List Value) ++ rest2).toArray 39 (0, 0))) (hV : Per WC lo false (.slice (some ⟨pb, 0, none⟩) 1 c1)) (hZV : Per WC lo2 false (.slice (some ⟨zn, 0, none⟩) 1 c4)) (u2 u15 u17 u18 u19 u20 u21 u22 u23 u24 u25 u26 u27 u28 u29 u30 u31 u32 u33 u34 u35 u36 u37 u38 u39 u40 u41 u42 u43 u44 u45 u46 u47 u48 u49 u50 u51 u52 u53 u54 u55 u56 u57 u58 u59 u60 u61 u62 u63 u64 u65 u66 u67 u68 u69 u70 u71 u72 u73 u74 u75 u76 u77 u78 u79 u80 u81 u82 u83 u84 u85 u86 u87 u88 u89 u90 u91 u92 u93 u94 u95 u96 u97 u98 u99 u100 u101 u102 u103 u104 u105 u106 u107 u108 u109 u110 u111 u112 u113 u114 u115 u116 u117 u118 u119 u120 : Value) (K : Act → World → Prop) (Q : Exit → Act → World → Prop)
    (hK : ∀ a w, a.tmps[0]? = some (.bool true) → a.defers = [] → Below WC.heap.size WC w → K a w) :
    Code.wp Tryz.prog reg11 (Exit.then K Q) ⟨#[.bool false, .pointer (some ⟨b1, 0, none⟩), u2, .pointer (some ⟨b3, 0, none⟩), .pointer (some ⟨b4, 0, none⟩), .string ⟨#[97, 119, 97, 121, 32, 48, 32, 49, 45, 51, 32, 109, 32, 49, 54, 43, 52]⟩, .int .i64 0, .pointer (some ⟨yb, 0, none⟩), .int .i64 0, .pointer (some ⟨qb, 0, none⟩), .int .i64 0, .pointer (some ⟨ub, 0, none⟩), .int .i64 0, .pointer (some ⟨zb, 0, none⟩), .int .i64 0, u15, .int .i64 8, u17, u18, u19, u20, u21, u22, u23, u24, u25, u26, u27, u28, u29, u30, u31, u32, u33, u34, u35, u36, u37, u38, u39, u40, u41, u42, u43, u44, u45, u46, u47, u48, u49, u50, u51, u52, u53, u54, u55, u56, u57, u58, u59, u60, u61, u62, u63, u64, u65, u66, u67, u68, u69, u70, u71, u72, u73, u74, u75, u76, u77, u78, u79, u80, u81, u82, u83, u84, u85, u86, u87, u88, u89, u90, u91, u92, u93, u94, u95, u96, u97, u98, u99, u100, u101, u102, u103, u104, u105, u106, u107, u108, u109, u110, u111, u112, u113, u114, u115, u116, u117, u118, u119, u120], []⟩ WC := by
  have HT_WC := Lib.hid hT
  have HP_WC := Lib.hid hP
  have HX_WC := Lib.hid hX
  have HY_WC := Lib.hid hY
  have HQ_WC := Lib.hid hQ
  have HU_WC := Lib.hid hU
  have HZ_WC := Lib.hid hZ
  have HN_WC := Lib.hid hN
  have HV_WC := Lib.hid hV
  have HZV_WC := Lib.hid hZV
  have HB_WC := Lib.hid (Below.refl WC.heap.size WC)
  have HK := Lib.hid hK
  have hc2i : (1 : Int) ≤ c2 := by omega
  clear hT hP hX hY hQ hU hZ hN hV hZV hK
  have hu_0 := Tryz.underlying50
  have hu_1 := Tryz.underlying31
  have hu_2 := Tryz.underlying39
  have hu_3 := Tryz.underlying25
  have hu_4 := Tryz.underlying36
  conv => arg 2; whnf
  have cX0 : WC.cell? ⟨b4, 0, none⟩ = some (.int .i64 1) := (blk_cell HX_WC.out 0).trans rfl
  have cX1 : WC.cell? ⟨b4, 1, none⟩ = some (.int .i64 0) := (blk_cell HX_WC.out 1).trans rfl
  have cX2 : WC.cell? ⟨b4, 2, none⟩ = some (.int .i64 0) := (blk_cell HX_WC.out 2).trans rfl
  have cX3 : WC.cell? ⟨b4, 3, none⟩ = some (.int .u32 7) := (blk_cell HX_WC.out 3).trans rfl
  have cX4 : WC.cell? ⟨b4, 4, none⟩ = some (.int .u8 1) := (blk_cell HX_WC.out 4).trans rfl
  have cX5 : WC.cell? ⟨b4, 5, none⟩ = some (.int .i64 16) := (blk_cell HX_WC.out 5).trans rfl
  have cX6 : WC.cell? ⟨b4, 6, none⟩ = some (.int .i64 4) := (blk_cell HX_WC.out 6).trans rfl
  have cX7 : WC.cell? ⟨b4, 7, none⟩ = some (.int .i64 0) := (blk_cell HX_WC.out 7).trans rfl
  have cX8 : WC.cell? ⟨b4, 8, none⟩ = some (.slice none 0 0) := (blk_cell HX_WC.out 8).trans rfl
  have cX9 : WC.cell? ⟨b4, 9, none⟩ = some (.int .i64 0) := (blk_cell HX_WC.out 9).trans rfl
  have cX10 : WC.cell? ⟨b4, 10, none⟩ = some (.int .i64 0) := (blk_cell HX_WC.out 10).trans rfl
  have cX11 : WC.cell? ⟨b4, 11, none⟩ = some (.bool false) := (blk_cell HX_WC.out 11).trans rfl
  have cX12 : WC.cell? ⟨b4, 12, none⟩ = some (.int .i64 0) := (blk_cell HX_WC.out 12).trans rfl
  have cY0 : WC.cell? ⟨yb, 0, none⟩ = some (.int .i64 1) := (blk_cell HY_WC.out 0).trans rfl
  have cY1 : WC.cell? ⟨yb, 1, none⟩ = some (.int .i64 0) := (blk_cell HY_WC.out 1).trans rfl
  have cY2 : WC.cell? ⟨yb, 2, none⟩ = some (.int .i64 0) := (blk_cell HY_WC.out 2).trans rfl
  have cY3 : WC.cell? ⟨yb, 3, none⟩ = some (.int .u32 7) := (blk_cell HY_WC.out 3).trans rfl
  have cY4 : WC.cell? ⟨yb, 4, none⟩ = some (.int .u8 1) := (blk_cell HY_WC.out 4).trans rfl
  have cY5 : WC.cell? ⟨yb, 5, none⟩ = some (.int .i64 16) := (blk_cell HY_WC.out 5).trans rfl
  have cY6 : WC.cell? ⟨yb, 6, none⟩ = some (.int .i64 4) := (blk_cell HY_WC.out 6).trans rfl
  have cY7 : WC.cell? ⟨yb, 7, none⟩ = some (.int .i64 0) := (blk_cell HY_WC.out 7).trans rfl
  have cY8 : WC.cell? ⟨yb, 8, none⟩ = some (.slice none 0 0) := (blk_cell HY_WC.out 8).trans rfl
  have cY9 : WC.cell? ⟨yb, 9, none⟩ = some (.int .i64 0) := (blk_cell HY_WC.out 9).trans rfl
  have cY10 : WC.cell? ⟨yb, 10, none⟩ = some (.int .i64 0) := (blk_cell HY_WC.out 10).trans rfl
  have cY11 : WC.cell? ⟨yb, 11, none⟩ = some (.bool false) := (blk_cell HY_WC.out 11).trans rfl
  have cY12 : WC.cell? ⟨yb, 12, none⟩ = some (.int .i64 0) := (blk_cell HY_WC.out 12).trans rfl
  go_wp2_with fail
  clear cX0 cX1 cX2 cX3 cX4 cX5 cX6 cX7 cX8 cX9 cX10 cX11 cX12 cY0 cY1 cY2 cY3 cY4 cY5 cY6 cY7 cY8 cY9 cY10 cY11 cY12
  refine (sameA WC).mono ?_
  rintro e WD ⟨rfl, hb⟩
  have HT_WD := Lib.hid (blk_below HT_WC.out hb)
  have HP_WD := Lib.hid (blk_below HP_WC.out hb)
  have HX_WD := Lib.hid (blk_below HX_WC.out hb)
  have HY_WD := Lib.hid (blk_below HY_WC.out hb)
  have HQ_WD := Lib.hid (blk_below HQ_WC.out hb)
  have HN_WD := Lib.hid (blk_below HN_WC.out hb)
  have HU_WD := Lib.hid (blk_below HU_WC.out hb)
  have HZ_WD := Lib.hid (blk_below HZ_WC.out hb)
  have HV_WD := Lib.hid (HV_WC.out.below hb)
  have HZV_WD := Lib.hid (HZV_WC.out.below hb)
  have HB_WD := Lib.hid (below_step HB_WC.out hb)
  clear HT_WC HP_WC HX_WC HY_WC HQ_WC HN_WC HU_WC HZ_WC HV_WC HZV_WC HB_WC hb
  have cQ6 : WD.cell? ⟨qb, 6, none⟩ = some (.slice (some ⟨nb, 0, none⟩) 1 c2) := (blk_cell HQ_WD.out 6).trans rfl
  have cN1 : WD.cell? ⟨nb, 1, none⟩ = some (.slice (some ⟨tb, 0, none⟩) 1 c3) := (blk_cell HN_WD.out 1).trans rfl
  have cU0 : WD.cell? ⟨ub, 0, none⟩ = some (.int .i64 2) := (blk_cell HU_WD.out 0).trans rfl
  have cU1 : WD.cell? ⟨ub, 1, none⟩ = some (.int .i64 0) := (blk_cell HU_WD.out 1).trans rfl
  have cU2 : WD.cell? ⟨ub, 2, none⟩ = some (.int .i64 0) := (blk_cell HU_WD.out 2).trans rfl
  have cU3 : WD.cell? ⟨ub, 3, none⟩ = some (.int .u32 7) := (blk_cell HU_WD.out 3).trans rfl
  have cU4 : WD.cell? ⟨ub, 4, none⟩ = some (.int .u8 1) := (blk_cell HU_WD.out 4).trans rfl
  have cU5 : WD.cell? ⟨ub, 5, none⟩ = some (.int .i64 16) := (blk_cell HU_WD.out 5).trans rfl
  have cU6 : WD.cell? ⟨ub, 6, none⟩ = some (.int .i64 4) := (blk_cell HU_WD.out 6).trans rfl
  have cU7 : WD.cell? ⟨ub, 7, none⟩ = some (.int .i64 0) := (blk_cell HU_WD.out 7).trans rfl
  have cU8 : WD.cell? ⟨ub, 8, none⟩ = some (.slice none 0 0) := (blk_cell HU_WD.out 8).trans rfl
  have cU9 : WD.cell? ⟨ub, 9, none⟩ = some (.int .i64 0) := (blk_cell HU_WD.out 9).trans rfl
  have cU10 : WD.cell? ⟨ub, 10, none⟩ = some (.int .i64 0) := (blk_cell HU_WD.out 10).trans rfl
  have cU11 : WD.cell? ⟨ub, 11, none⟩ = some (.bool false) := (blk_cell HU_WD.out 11).trans rfl
  have cU12 : WD.cell? ⟨ub, 12, none⟩ = some (.int .i64 0) := (blk_cell HU_WD.out 12).trans rfl
  have cT0 : WD.cell? ⟨b1, 0, none⟩ = some (.int .u32 7) := (blk_cell HT_WD.out 0).trans rfl
  have cT1 : WD.cell? ⟨b1, 1, none⟩ = some (.int .u8 1) := (blk_cell HT_WD.out 1).trans rfl
  have cT2 : WD.cell? ⟨b1, 2, none⟩ = some (.int .i64 16) := (blk_cell HT_WD.out 2).trans rfl
  have cT3 : WD.cell? ⟨b1, 3, none⟩ = some (.int .i64 4) := (blk_cell HT_WD.out 3).trans rfl
  go_wp2_with fail
  clear cQ6 cN1 cU0 cU1 cU2 cU3 cU4 cU5 cU6 cU7 cU8 cU9 cU10 cU11 cU12 cT0 cT1 cT2 cT3
  refine (sameH WD).mono ?_
  rintro e WE ⟨rfl, hb⟩
  have HT_WE := Lib.hid (blk_below HT_WD.out hb)
  have HP_WE := Lib.hid (blk_below HP_WD.out hb)
  have HX_WE := Lib.hid (blk_below HX_WD.out hb)
  have HY_WE := Lib.hid (blk_below HY_WD.out hb)
  have HQ_WE := Lib.hid (blk_below HQ_WD.out hb)
  have HN_WE := Lib.hid (blk_below HN_WD.out hb)
  have HU_WE := Lib.hid (blk_below HU_WD.out hb)
  have HZ_WE := Lib.hid (blk_below HZ_WD.out hb)
  have HV_WE := Lib.hid (HV_WD.out.below hb)
  have HZV_WE := Lib.hid (HZV_WD.out.below hb)
  have HB_WE := Lib.hid (below_step HB_WD.out hb)
  clear HT_WD HP_WD HX_WD HY_WD HQ_WD HN_WD HU_WD HZ_WD HV_WD HZV_WD HB_WD hb
  have cZ0 : WE.cell? ⟨zb, 0, none⟩ = some (.string ⟨#[112]⟩) := (blk_cell HZ_WE.out 0).trans rfl
  have cZ1 : WE.cell? ⟨zb, 1, none⟩ = some (.int .i64 4) := (blk_cell HZ_WE.out 1).trans rfl
  have cZ2 : WE.cell? ⟨zb, 2, none⟩ = some (.int .i64 5) := (blk_cell HZ_WE.out 2).trans rfl
  have cZ3 : WE.cell? ⟨zb, 3, none⟩ = some (.int .i64 40) := (blk_cell HZ_WE.out 3).trans rfl
  have cZ4 : WE.cell? ⟨zb, 4, none⟩ = some (.slice none 0 0) := (blk_cell HZ_WE.out 4).trans rfl
  have cZ5 : WE.cell? ⟨zb, 5, none⟩ = some (.slice none 0 0) := (blk_cell HZ_WE.out 5).trans rfl
  have cZ6 : WE.cell? ⟨zb, 6, none⟩ = some (.slice (some ⟨zn, 0, none⟩) 1 c4) := (blk_cell HZ_WE.out 6).trans rfl
  have cZ7 : WE.cell? ⟨zb, 7, none⟩ = some (.slice none 0 0) := (blk_cell HZ_WE.out 7).trans rfl
  have cZ8 : WE.cell? ⟨zb, 8, none⟩ = some (.slice none 0 0) := (blk_cell HZ_WE.out 8).trans rfl
  have cZ9 : WE.cell? ⟨zb, 9, none⟩ = some (.slice none 0 0) := (blk_cell HZ_WE.out 9).trans rfl
  have cZ10 : WE.cell? ⟨zb, 10, none⟩ = some (.slice none 0 0) := (blk_cell HZ_WE.out 10).trans rfl
  have cZ11 : WE.cell? ⟨zb, 11, none⟩ = some (.int .i64 0) := (blk_cell HZ_WE.out 11).trans rfl
  have cZ12 : WE.cell? ⟨zb, 12, none⟩ = some (.int .i64 0) := (blk_cell HZ_WE.out 12).trans rfl
  have cZ13 : WE.cell? ⟨zb, 13, none⟩ = some (.int .i64 0) := (blk_cell HZ_WE.out 13).trans rfl
  have cZ14 : WE.cell? ⟨zb, 14, none⟩ = some (.int .i64 0) := (blk_cell HZ_WE.out 14).trans rfl
  have cP0 : WE.cell? ⟨b3, 0, none⟩ = some (.string ⟨#[112]⟩) := (blk_cell HP_WE.out 0).trans rfl
  have cP1 : WE.cell? ⟨b3, 1, none⟩ = some (.int .i64 4) := (blk_cell HP_WE.out 1).trans rfl
  have cP2 : WE.cell? ⟨b3, 2, none⟩ = some (.int .i64 5) := (blk_cell HP_WE.out 2).trans rfl
  have cP3 : WE.cell? ⟨b3, 3, none⟩ = some (.int .i64 40) := (blk_cell HP_WE.out 3).trans rfl
  have cP4 : WE.cell? ⟨b3, 4, none⟩ = some (.slice none 0 0) := (blk_cell HP_WE.out 4).trans rfl
  have cP5 : WE.cell? ⟨b3, 5, none⟩ = some (.slice none 0 0) := (blk_cell HP_WE.out 5).trans rfl
  have cP6 : WE.cell? ⟨b3, 6, none⟩ = some (.slice (some ⟨pb, 0, none⟩) 1 c1) := (blk_cell HP_WE.out 6).trans rfl
  have cP7 : WE.cell? ⟨b3, 7, none⟩ = some (.slice none 0 0) := (blk_cell HP_WE.out 7).trans rfl
  have cP8 : WE.cell? ⟨b3, 8, none⟩ = some (.slice none 0 0) := (blk_cell HP_WE.out 8).trans rfl
  have cP9 : WE.cell? ⟨b3, 9, none⟩ = some (.slice none 0 0) := (blk_cell HP_WE.out 9).trans rfl
  have cP10 : WE.cell? ⟨b3, 10, none⟩ = some (.slice none 0 0) := (blk_cell HP_WE.out 10).trans rfl
  have cP11 : WE.cell? ⟨b3, 11, none⟩ = some (.int .i64 0) := (blk_cell HP_WE.out 11).trans rfl
  have cP12 : WE.cell? ⟨b3, 12, none⟩ = some (.int .i64 0) := (blk_cell HP_WE.out 12).trans rfl
  have cP13 : WE.cell? ⟨b3, 13, none⟩ = some (.int .i64 0) := (blk_cell HP_WE.out 13).trans rfl
  have cP14 : WE.cell? ⟨b3, 14, none⟩ = some (.int .i64 0) := (blk_cell HP_WE.out 14).trans rfl
  go_wp2_with fail
  clear cZ0 cZ1 cZ2 cZ3 cZ4 cZ5 cZ6 cZ7 cZ8 cZ9 cZ10 cZ11 cZ12 cZ13 cZ14 cP0 cP1 cP2 cP3 cP4 cP5 cP6 cP7 cP8 cP9 cP10 cP11 cP12 cP13 cP14
  refine (WSame.same_c WE _ _ _ _ HZV_WE.out HV_WE.out).mono ?_
  rintro e WF ⟨rfl, hb⟩
  have HT_WF := Lib.hid (blk_below HT_WE.out hb)
  have HP_WF := Lib.hid (blk_below HP_WE.out hb)
  have HX_WF := Lib.hid (blk_below HX_WE.out hb)
  have HY_WF := Lib.hid (blk_below HY_WE.out hb)
  have HQ_WF := Lib.hid (blk_below HQ_WE.out hb)
  have HN_WF := Lib.hid (blk_below HN_WE.out hb)
  have HU_WF := Lib.hid (blk_below HU_WE.out hb)
  have HZ_WF := Lib.hid (blk_below HZ_WE.out hb)
  have HV_WF := Lib.hid (HV_WE.out.below hb)
  have HZV_WF := Lib.hid (HZV_WE.out.below hb)
  have HB_WF := Lib.hid (below_step HB_WE.out hb)
  clear HT_WE HP_WE HX_WE HY_WE HQ_WE HN_WE HU_WE HZ_WE HV_WE HZV_WE HB_WE hb
  have cX0 : WF.cell? ⟨b4, 0, none⟩ = some (.int .i64 1) := (blk_cell HX_WF.out 0).trans rfl
  have cX1 : WF.cell? ⟨b4, 1, none⟩ = some (.int .i64 0) := (blk_cell HX_WF.out 1).trans rfl
  have cX2 : WF.cell? ⟨b4, 2, none⟩ = some (.int .i64 0) := (blk_cell HX_WF.out 2).trans rfl
  have cX3 : WF.cell? ⟨b4, 3, none⟩ = some (.int .u32 7) := (blk_cell HX_WF.out 3).trans rfl
  have cX4 : WF.cell? ⟨b4, 4, none⟩ = some (.int .u8 1) := (blk_cell HX_WF.out 4).trans rfl
  have cX5 : WF.cell? ⟨b4, 5, none⟩ = some (.int .i64 16) := (blk_cell HX_WF.out 5).trans rfl
  have cX6 : WF.cell? ⟨b4, 6, none⟩ = some (.int .i64 4) := (blk_cell HX_WF.out 6).trans rfl
  have cX7 : WF.cell? ⟨b4, 7, none⟩ = some (.int .i64 0) := (blk_cell HX_WF.out 7).trans rfl
  have cX8 : WF.cell? ⟨b4, 8, none⟩ = some (.slice none 0 0) := (blk_cell HX_WF.out 8).trans rfl
  have cX9 : WF.cell? ⟨b4, 9, none⟩ = some (.int .i64 0) := (blk_cell HX_WF.out 9).trans rfl
  have cX10 : WF.cell? ⟨b4, 10, none⟩ = some (.int .i64 0) := (blk_cell HX_WF.out 10).trans rfl
  have cX11 : WF.cell? ⟨b4, 11, none⟩ = some (.bool false) := (blk_cell HX_WF.out 11).trans rfl
  have cX12 : WF.cell? ⟨b4, 12, none⟩ = some (.int .i64 0) := (blk_cell HX_WF.out 12).trans rfl
  go_wp2_with fail
  clear cX0 cX1 cX2 cX3 cX4 cX5 cX6 cX7 cX8 cX9 cX10 cX11 cX12
  refine (rightA WF).mono ?_
  rintro e WG ⟨rfl, hb⟩
  have HT_WG := Lib.hid (blk_below HT_WF.out hb)
  have HP_WG := Lib.hid (blk_below HP_WF.out hb)
  have HX_WG := Lib.hid (blk_below HX_WF.out hb)
  have HY_WG := Lib.hid (blk_below HY_WF.out hb)
  have HQ_WG := Lib.hid (blk_below HQ_WF.out hb)
  have HN_WG := Lib.hid (blk_below HN_WF.out hb)
  have HU_WG := Lib.hid (blk_below HU_WF.out hb)
  have HZ_WG := Lib.hid (blk_below HZ_WF.out hb)
  have HV_WG := Lib.hid (HV_WF.out.below hb)
  have HZV_WG := Lib.hid (HZV_WF.out.below hb)
  have HB_WG := Lib.hid (below_step HB_WF.out hb)
  clear HT_WF HP_WF HX_WF HY_WF HQ_WF HN_WF HU_WF HZ_WF HV_WF HZV_WF HB_WF hb
  go_wp2_with fail
  exact HK.out _ _ rfl rfl HB_WG.out
end Go.Proofs.YtklgecdklngekaaGreatDoor.WTail
