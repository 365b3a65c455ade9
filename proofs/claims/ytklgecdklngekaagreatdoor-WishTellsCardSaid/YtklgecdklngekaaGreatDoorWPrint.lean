/- wish.Print at the chapter's example. -/
import Derived.Test.YtklgecdklngekaaGreatDoorWRight
import Derived.Test.YtklgecdklngekaaGreatDoorWFacts
namespace Go.Proofs.YtklgecdklngekaaGreatDoor.WPrint
set_option linter.unusedVariables false
set_option linter.unusedSimpArgs false
open Go.RowKit Go.Proofs.YtklgecdklngekaaGreatDoorW.PrintWords Go.Proofs.YtklgecdklngekaaGreatDoorW.PrintLast Go.Proofs.YtklgecdklngekaaGreatDoor.Q
theorem one (W : World) (s : ByteArray) : Kd.R Kd.string 9 (W.alloc (.cells #[.string s] 9)) W.heap.size (fun _ => True) (.slice (some ⟨W.heap.size, 0, none⟩) 1 1) [s] :=
  Kd.R_of_own (h1 := fun _ => rfl) (xs := [s]) ⟨rfl, .inr ⟨W.heap.size, 1, _, rfl, Nat.le_refl _, blk_new W _, Nat.le_refl _, by unfold maxLen; omega, rfl, rfl⟩⟩ (fun _ _ => trivial)
set_option maxHeartbeats 8000000 in
set_option maxRecDepth 100000 in
theorem print_c (W : World) : Calls Tryz.prog 10 #[.agg #[.int .i64 4, .int .i64 5, .int .i64 40], .agg #[.int .i64 1, .int .i64 0, .int .i64 0, .int .u32 7, .int .u8 1, .int .i64 16, .int .i64 4, .int .i64 0, .slice none 0 0, .int .i64 0, .int .i64 0, .bool false, .int .i64 0]] W fun e w' => e = .returned (.tuple #[.string WFacts.line, .int .i64 0]) ∧ Below W.heap.size W w' := by
  have hu31 := Tryz.underlying31
  have hu61 := Tryz.underlying61
  have hu36 := Tryz.underlying36
  have hu25 := Tryz.underlying25
  go_enter Tryz.func10, Tryz.ntmps10
  go_wp2_with fail
  have HG2 := Lib.hid (blk_alloc (blk_new W (.cells #[.int .i64 4, .int .i64 5, .int .i64 40] 36)) (.cells #[.int .i64 1, .int .i64 0, .int .i64 0, .int .u32 7, .int .u8 1, .int .i64 16, .int .i64 4, .int .i64 0, .slice none 0 0, .int .i64 0, .int .i64 0, .bool false, .int .i64 0] 31))
  have hx2 := blk_new (W.alloc (.cells #[.int .i64 4, .int .i64 5, .int .i64 40] 36)) (.cells #[.int .i64 1, .int .i64 0, .int .i64 0, .int .u32 7, .int .u8 1, .int .i64 16, .int .i64 4, .int .i64 0, .slice none 0 0, .int .i64 0, .int .i64 0, .bool false, .int .i64 0] 31)
  rw [World.size_alloc] at hx2
  have HX2 := Lib.hid hx2
  have HB2 := Lib.hid (below_alloc (below_alloc (Below.refl W.heap.size W) (.cells #[.int .i64 4, .int .i64 5, .int .i64 40] 36)) (.cells #[.int .i64 1, .int .i64 0, .int .i64 0, .int .u32 7, .int .u8 1, .int .i64 16, .int .i64 4, .int .i64 0, .slice none 0 0, .int .i64 0, .int .i64 0, .bool false, .int .i64 0] 31))
  clear hx2
  generalize (W.alloc (.cells #[.int .i64 4, .int .i64 5, .int .i64 40] 36)).alloc (.cells #[.int .i64 1, .int .i64 0, .int .i64 0, .int .u32 7, .int .u8 1, .int .i64 16, .int .i64 4, .int .i64 0, .slice none 0 0, .int .i64 0, .int .i64 0, .bool false, .int .i64 0] 31) = W2 at *
  refine (wish_formOf.calls 1 _ _ _ _ _ _ W2 WFacts.form).mono ?_
  rintro e W3 ⟨rfl, hb3⟩
  have HG4 := Lib.hid (blk_alloc (blk_below HG2.out hb3) (.cells #[.string WFacts.away, .bool true, .bool false, .bool true, .bool false] 61))
  have HX4 := Lib.hid (blk_alloc (blk_below HX2.out hb3) (.cells #[.string WFacts.away, .bool true, .bool false, .bool true, .bool false] 61))
  have HF4 := Lib.hid (blk_new W3 (.cells #[.string WFacts.away, .bool true, .bool false, .bool true, .bool false] 61))
  have HB4 := Lib.hid (below_alloc (below_step HB2.out hb3) (.cells #[.string WFacts.away, .bool true, .bool false, .bool true, .bool false] 61))
  clear hb3 HG2 HX2 HB2
  have p0 : (W3.alloc (.cells #[.string WFacts.away, .bool true, .bool false, .bool true, .bool false] 61)).cell? ⟨W.heap.size + 1, 0, none⟩ = some (.int .i64 1) := (blk_cell HX4.out 0).trans rfl
  have p1 : (W3.alloc (.cells #[.string WFacts.away, .bool true, .bool false, .bool true, .bool false] 61)).cell? ⟨W.heap.size + 1, 1, none⟩ = some (.int .i64 0) := (blk_cell HX4.out 1).trans rfl
  have p2 : (W3.alloc (.cells #[.string WFacts.away, .bool true, .bool false, .bool true, .bool false] 61)).cell? ⟨W.heap.size + 1, 2, none⟩ = some (.int .i64 0) := (blk_cell HX4.out 2).trans rfl
  have p3 : (W3.alloc (.cells #[.string WFacts.away, .bool true, .bool false, .bool true, .bool false] 61)).cell? ⟨W.heap.size + 1, 3, none⟩ = some (.int .u32 7) := (blk_cell HX4.out 3).trans rfl
  have p4 : (W3.alloc (.cells #[.string WFacts.away, .bool true, .bool false, .bool true, .bool false] 61)).cell? ⟨W.heap.size + 1, 4, none⟩ = some (.int .u8 1) := (blk_cell HX4.out 4).trans rfl
  have p5 : (W3.alloc (.cells #[.string WFacts.away, .bool true, .bool false, .bool true, .bool false] 61)).cell? ⟨W.heap.size + 1, 5, none⟩ = some (.int .i64 16) := (blk_cell HX4.out 5).trans rfl
  have p6 : (W3.alloc (.cells #[.string WFacts.away, .bool true, .bool false, .bool true, .bool false] 61)).cell? ⟨W.heap.size + 1, 6, none⟩ = some (.int .i64 4) := (blk_cell HX4.out 6).trans rfl
  have p7 : (W3.alloc (.cells #[.string WFacts.away, .bool true, .bool false, .bool true, .bool false] 61)).cell? ⟨W.heap.size + 1, 7, none⟩ = some (.int .i64 0) := (blk_cell HX4.out 7).trans rfl
  have p8 : (W3.alloc (.cells #[.string WFacts.away, .bool true, .bool false, .bool true, .bool false] 61)).cell? ⟨W.heap.size + 1, 8, none⟩ = some (.slice none 0 0) := (blk_cell HX4.out 8).trans rfl
  have p9 : (W3.alloc (.cells #[.string WFacts.away, .bool true, .bool false, .bool true, .bool false] 61)).cell? ⟨W.heap.size + 1, 9, none⟩ = some (.int .i64 0) := (blk_cell HX4.out 9).trans rfl
  have p10 : (W3.alloc (.cells #[.string WFacts.away, .bool true, .bool false, .bool true, .bool false] 61)).cell? ⟨W.heap.size + 1, 10, none⟩ = some (.int .i64 0) := (blk_cell HX4.out 10).trans rfl
  have p11 : (W3.alloc (.cells #[.string WFacts.away, .bool true, .bool false, .bool true, .bool false] 61)).cell? ⟨W.heap.size + 1, 11, none⟩ = some (.bool false) := (blk_cell HX4.out 11).trans rfl
  have p12 : (W3.alloc (.cells #[.string WFacts.away, .bool true, .bool false, .bool true, .bool false] 61)).cell? ⟨W.heap.size + 1, 12, none⟩ = some (.int .i64 0) := (blk_cell HX4.out 12).trans rfl
  go_wp2_with fail
  clear p0 p1 p2 p3 p4 p5 p6 p7 p8 p9 p10 p11 p12
  generalize W3.alloc (.cells #[.string WFacts.away, .bool true, .bool false, .bool true, .bool false] 61) = W4 at *
  generalize W3.heap.size = fb at *
  refine (WRight.right_c 1 0 0 7 1 16 4 0 none 0 [] 0 0 false 0 W4 (Kd.C_nil _ _) (Nat.le_refl _) _ _ _ _ _ _ WFacts.form).mono ?_
  rw [show WRight.right true false true false true 0 0 7 1 16 4 (WRight.none_ 0 [] 0 0 false 0) = true from by decide]
  rintro e W5 ⟨rfl, hb5⟩
  have HG5 := Lib.hid (blk_below HG4.out hb5)
  have HX5 := Lib.hid (blk_below HX4.out hb5)
  have HF5 := Lib.hid (blk_below HF4.out hb5)
  have HB5 := Lib.hid (below_step HB4.out hb5)
  clear hb5 HG4 HX4 HF4 HB4
  have g0 : W5.cell? ⟨W.heap.size, 0, none⟩ = some (.int .i64 4) := (blk_cell HG5.out 0).trans rfl
  have g1 : W5.cell? ⟨W.heap.size, 1, none⟩ = some (.int .i64 5) := (blk_cell HG5.out 1).trans rfl
  have g2 : W5.cell? ⟨W.heap.size, 2, none⟩ = some (.int .i64 40) := (blk_cell HG5.out 2).trans rfl
  have p0 : W5.cell? ⟨W.heap.size + 1, 0, none⟩ = some (.int .i64 1) := (blk_cell HX5.out 0).trans rfl
  have p1 : W5.cell? ⟨W.heap.size + 1, 1, none⟩ = some (.int .i64 0) := (blk_cell HX5.out 1).trans rfl
  have p2 : W5.cell? ⟨W.heap.size + 1, 2, none⟩ = some (.int .i64 0) := (blk_cell HX5.out 2).trans rfl
  have p3 : W5.cell? ⟨W.heap.size + 1, 3, none⟩ = some (.int .u32 7) := (blk_cell HX5.out 3).trans rfl
  have p4 : W5.cell? ⟨W.heap.size + 1, 4, none⟩ = some (.int .u8 1) := (blk_cell HX5.out 4).trans rfl
  have p5 : W5.cell? ⟨W.heap.size + 1, 5, none⟩ = some (.int .i64 16) := (blk_cell HX5.out 5).trans rfl
  have p6 : W5.cell? ⟨W.heap.size + 1, 6, none⟩ = some (.int .i64 4) := (blk_cell HX5.out 6).trans rfl
  have p7 : W5.cell? ⟨W.heap.size + 1, 7, none⟩ = some (.int .i64 0) := (blk_cell HX5.out 7).trans rfl
  have p8 : W5.cell? ⟨W.heap.size + 1, 8, none⟩ = some (.slice none 0 0) := (blk_cell HX5.out 8).trans rfl
  have p9 : W5.cell? ⟨W.heap.size + 1, 9, none⟩ = some (.int .i64 0) := (blk_cell HX5.out 9).trans rfl
  have p10 : W5.cell? ⟨W.heap.size + 1, 10, none⟩ = some (.int .i64 0) := (blk_cell HX5.out 10).trans rfl
  have p11 : W5.cell? ⟨W.heap.size + 1, 11, none⟩ = some (.bool false) := (blk_cell HX5.out 11).trans rfl
  have p12 : W5.cell? ⟨W.heap.size + 1, 12, none⟩ = some (.int .i64 0) := (blk_cell HX5.out 12).trans rfl
  have f0 : W5.cell? ⟨fb, 0, none⟩ = some (.string WFacts.away) := (blk_cell HF5.out 0).trans rfl
  have f1 : W5.cell? ⟨fb, 1, none⟩ = some (.bool true) := (blk_cell HF5.out 1).trans rfl
  have f2 : W5.cell? ⟨fb, 2, none⟩ = some (.bool false) := (blk_cell HF5.out 2).trans rfl
  have f3 : W5.cell? ⟨fb, 3, none⟩ = some (.bool true) := (blk_cell HF5.out 3).trans rfl
  have f4 : W5.cell? ⟨fb, 4, none⟩ = some (.bool false) := (blk_cell HF5.out 4).trans rfl
  go_wp2_with fail
  clear g0 g1 g2 p0 p1 p2 p3 p4 p5 p6 p7 p8 p9 p10 p11 p12 f0 f1 f2 f3 f4
  refine (when_Right.calls 4 5 40 7 1 16 4 _ W5 WFacts.rightw).mono ?_
  rintro e W6 ⟨rfl, hb6⟩
  have HG6 := Lib.hid (blk_below HG5.out hb6)
  have HX6 := Lib.hid (blk_below HX5.out hb6)
  have HF6 := Lib.hid (blk_below HF5.out hb6)
  have HB6 := Lib.hid (below_step HB5.out hb6)
  clear hb6 HG5 HX5 HF5 HB5
  have HR7 := Lib.hid (one W6 WFacts.away)
  have hb7 := below_alloc (Below.refl W6.heap.size W6) (.cells #[.string WFacts.away] 9)
  have HG7 := Lib.hid (blk_below HG6.out hb7)
  have HX7 := Lib.hid (blk_below HX6.out hb7)
  have HF7 := Lib.hid (blk_below HF6.out hb7)
  have HB7 := Lib.hid (below_step HB6.out hb7)
  have gg0 : W6.cell? ⟨W.heap.size, 0, none⟩ = some (.int .i64 4) := (blk_cell HG6.out 0).trans rfl
  have gg1 : W6.cell? ⟨W.heap.size, 1, none⟩ = some (.int .i64 5) := (blk_cell HG6.out 1).trans rfl
  have gg2 : W6.cell? ⟨W.heap.size, 2, none⟩ = some (.int .i64 40) := (blk_cell HG6.out 2).trans rfl
  have pp0 : W6.cell? ⟨W.heap.size + 1, 0, none⟩ = some (.int .i64 1) := (blk_cell HX6.out 0).trans rfl
  have pp1 : W6.cell? ⟨W.heap.size + 1, 1, none⟩ = some (.int .i64 0) := (blk_cell HX6.out 1).trans rfl
  have pp2 : W6.cell? ⟨W.heap.size + 1, 2, none⟩ = some (.int .i64 0) := (blk_cell HX6.out 2).trans rfl
  have pp3 : W6.cell? ⟨W.heap.size + 1, 3, none⟩ = some (.int .u32 7) := (blk_cell HX6.out 3).trans rfl
  have pp4 : W6.cell? ⟨W.heap.size + 1, 4, none⟩ = some (.int .u8 1) := (blk_cell HX6.out 4).trans rfl
  have pp5 : W6.cell? ⟨W.heap.size + 1, 5, none⟩ = some (.int .i64 16) := (blk_cell HX6.out 5).trans rfl
  have pp6 : W6.cell? ⟨W.heap.size + 1, 6, none⟩ = some (.int .i64 4) := (blk_cell HX6.out 6).trans rfl
  have pp7 : W6.cell? ⟨W.heap.size + 1, 7, none⟩ = some (.int .i64 0) := (blk_cell HX6.out 7).trans rfl
  have pp8 : W6.cell? ⟨W.heap.size + 1, 8, none⟩ = some (.slice none 0 0) := (blk_cell HX6.out 8).trans rfl
  have pp9 : W6.cell? ⟨W.heap.size + 1, 9, none⟩ = some (.int .i64 0) := (blk_cell HX6.out 9).trans rfl
  have pp10 : W6.cell? ⟨W.heap.size + 1, 10, none⟩ = some (.int .i64 0) := (blk_cell HX6.out 10).trans rfl
  have pp11 : W6.cell? ⟨W.heap.size + 1, 11, none⟩ = some (.bool false) := (blk_cell HX6.out 11).trans rfl
  have pp12 : W6.cell? ⟨W.heap.size + 1, 12, none⟩ = some (.int .i64 0) := (blk_cell HX6.out 12).trans rfl
  have ff0 : W6.cell? ⟨fb, 0, none⟩ = some (.string WFacts.away) := (blk_cell HF6.out 0).trans rfl
  have ff1 : W6.cell? ⟨fb, 1, none⟩ = some (.bool true) := (blk_cell HF6.out 1).trans rfl
  have ff2 : W6.cell? ⟨fb, 2, none⟩ = some (.bool false) := (blk_cell HF6.out 2).trans rfl
  have ff3 : W6.cell? ⟨fb, 3, none⟩ = some (.bool true) := (blk_cell HF6.out 3).trans rfl
  have ff4 : W6.cell? ⟨fb, 4, none⟩ = some (.bool false) := (blk_cell HF6.out 4).trans rfl
  have g0 : (W6.alloc (.cells #[.string WFacts.away] 9)).cell? ⟨W.heap.size, 0, none⟩ = some (.int .i64 4) := (blk_cell HG7.out 0).trans rfl
  have g1 : (W6.alloc (.cells #[.string WFacts.away] 9)).cell? ⟨W.heap.size, 1, none⟩ = some (.int .i64 5) := (blk_cell HG7.out 1).trans rfl
  have g2 : (W6.alloc (.cells #[.string WFacts.away] 9)).cell? ⟨W.heap.size, 2, none⟩ = some (.int .i64 40) := (blk_cell HG7.out 2).trans rfl
  have p0 : (W6.alloc (.cells #[.string WFacts.away] 9)).cell? ⟨W.heap.size + 1, 0, none⟩ = some (.int .i64 1) := (blk_cell HX7.out 0).trans rfl
  have p1 : (W6.alloc (.cells #[.string WFacts.away] 9)).cell? ⟨W.heap.size + 1, 1, none⟩ = some (.int .i64 0) := (blk_cell HX7.out 1).trans rfl
  have p2 : (W6.alloc (.cells #[.string WFacts.away] 9)).cell? ⟨W.heap.size + 1, 2, none⟩ = some (.int .i64 0) := (blk_cell HX7.out 2).trans rfl
  have p3 : (W6.alloc (.cells #[.string WFacts.away] 9)).cell? ⟨W.heap.size + 1, 3, none⟩ = some (.int .u32 7) := (blk_cell HX7.out 3).trans rfl
  have p4 : (W6.alloc (.cells #[.string WFacts.away] 9)).cell? ⟨W.heap.size + 1, 4, none⟩ = some (.int .u8 1) := (blk_cell HX7.out 4).trans rfl
  have p5 : (W6.alloc (.cells #[.string WFacts.away] 9)).cell? ⟨W.heap.size + 1, 5, none⟩ = some (.int .i64 16) := (blk_cell HX7.out 5).trans rfl
  have p6 : (W6.alloc (.cells #[.string WFacts.away] 9)).cell? ⟨W.heap.size + 1, 6, none⟩ = some (.int .i64 4) := (blk_cell HX7.out 6).trans rfl
  have p7 : (W6.alloc (.cells #[.string WFacts.away] 9)).cell? ⟨W.heap.size + 1, 7, none⟩ = some (.int .i64 0) := (blk_cell HX7.out 7).trans rfl
  have p8 : (W6.alloc (.cells #[.string WFacts.away] 9)).cell? ⟨W.heap.size + 1, 8, none⟩ = some (.slice none 0 0) := (blk_cell HX7.out 8).trans rfl
  have p9 : (W6.alloc (.cells #[.string WFacts.away] 9)).cell? ⟨W.heap.size + 1, 9, none⟩ = some (.int .i64 0) := (blk_cell HX7.out 9).trans rfl
  have p10 : (W6.alloc (.cells #[.string WFacts.away] 9)).cell? ⟨W.heap.size + 1, 10, none⟩ = some (.int .i64 0) := (blk_cell HX7.out 10).trans rfl
  have p11 : (W6.alloc (.cells #[.string WFacts.away] 9)).cell? ⟨W.heap.size + 1, 11, none⟩ = some (.bool false) := (blk_cell HX7.out 11).trans rfl
  have p12 : (W6.alloc (.cells #[.string WFacts.away] 9)).cell? ⟨W.heap.size + 1, 12, none⟩ = some (.int .i64 0) := (blk_cell HX7.out 12).trans rfl
  have f0 : (W6.alloc (.cells #[.string WFacts.away] 9)).cell? ⟨fb, 0, none⟩ = some (.string WFacts.away) := (blk_cell HF7.out 0).trans rfl
  have f1 : (W6.alloc (.cells #[.string WFacts.away] 9)).cell? ⟨fb, 1, none⟩ = some (.bool true) := (blk_cell HF7.out 1).trans rfl
  have f2 : (W6.alloc (.cells #[.string WFacts.away] 9)).cell? ⟨fb, 2, none⟩ = some (.bool false) := (blk_cell HF7.out 2).trans rfl
  have f3 : (W6.alloc (.cells #[.string WFacts.away] 9)).cell? ⟨fb, 3, none⟩ = some (.bool true) := (blk_cell HF7.out 3).trans rfl
  have f4 : (W6.alloc (.cells #[.string WFacts.away] 9)).cell? ⟨fb, 4, none⟩ = some (.bool false) := (blk_cell HF7.out 4).trans rfl
  have HS7 := Lib.hid hb7
  go_wp2_with fail
  clear g0 g1 g2 p0 p1 p2 p3 p4 p5 p6 p7 p8 p9 p10 p11 p12 f0 f1 f2 f3 f4
  clear gg0 gg1 gg2 pp0 pp1 pp2 pp3 pp4 pp5 pp6 pp7 pp8 pp9 pp10 pp11 pp12 ff0 ff1 ff2 ff3 ff4
  clear hb7 HG7 HX7 HF7 HB7
  generalize (W6.alloc (.cells #[.string WFacts.away] 9)) = W7 at *
  refine (digits_Print.calls 0 _ W7 WFacts.print0).mono ?_
  rintro e W8 ⟨rfl, hb8⟩
  have HR8 := Lib.hid (Kd.R_below HR7.out hb8)
  have HS8 := Lib.hid (below_step HS7.out hb8)
  clear hb8 HR7 HS7
  go_wp2_with (at_builtin; refine Kd.R_append Kd.string (w0 := W6) W6.heap.size rfl (.tmp 56) (.tmp 60) 69 9 (.string ⟨#[]⟩) 16 rfl Tryz.underlying69 info9B rfl (by decide) (by omega) _ [WFacts.away] WFacts.zero [.string WFacts.zero] (fun _ => True) (fun _ => False) rfl rfl rfl (fun _ h => h.elim) (fun _ _ => trivial) HR8.out HS8.out (below_size HS8.out) ?aL ?_; (case aL => decide); intro v9 W9 HO9 Hb9 hgr9 _; clear hgr9; have HR9 := Lib.hid HO9; have HS9 := Lib.hid Hb9; clear HO9 Hb9; have HG9 := Lib.hid (blk_below HG6.out HS9.out); have HX9 := Lib.hid (blk_below HX6.out HS9.out); have HF9 := Lib.hid (blk_below HF6.out HS9.out); have g0 : W9.cell? ⟨W.heap.size, 0, none⟩ = some (.int .i64 4) := (blk_cell HG9.out 0).trans rfl; have g1 : W9.cell? ⟨W.heap.size, 1, none⟩ = some (.int .i64 5) := (blk_cell HG9.out 1).trans rfl; have g2 : W9.cell? ⟨W.heap.size, 2, none⟩ = some (.int .i64 40) := (blk_cell HG9.out 2).trans rfl; have p0 : W9.cell? ⟨W.heap.size + 1, 0, none⟩ = some (.int .i64 1) := (blk_cell HX9.out 0).trans rfl; have p1 : W9.cell? ⟨W.heap.size + 1, 1, none⟩ = some (.int .i64 0) := (blk_cell HX9.out 1).trans rfl; have p2 : W9.cell? ⟨W.heap.size + 1, 2, none⟩ = some (.int .i64 0) := (blk_cell HX9.out 2).trans rfl; have p3 : W9.cell? ⟨W.heap.size + 1, 3, none⟩ = some (.int .u32 7) := (blk_cell HX9.out 3).trans rfl; have p4 : W9.cell? ⟨W.heap.size + 1, 4, none⟩ = some (.int .u8 1) := (blk_cell HX9.out 4).trans rfl; have p5 : W9.cell? ⟨W.heap.size + 1, 5, none⟩ = some (.int .i64 16) := (blk_cell HX9.out 5).trans rfl; have p6 : W9.cell? ⟨W.heap.size + 1, 6, none⟩ = some (.int .i64 4) := (blk_cell HX9.out 6).trans rfl; have p7 : W9.cell? ⟨W.heap.size + 1, 7, none⟩ = some (.int .i64 0) := (blk_cell HX9.out 7).trans rfl; have p8 : W9.cell? ⟨W.heap.size + 1, 8, none⟩ = some (.slice none 0 0) := (blk_cell HX9.out 8).trans rfl; have p9 : W9.cell? ⟨W.heap.size + 1, 9, none⟩ = some (.int .i64 0) := (blk_cell HX9.out 9).trans rfl; have p10 : W9.cell? ⟨W.heap.size + 1, 10, none⟩ = some (.int .i64 0) := (blk_cell HX9.out 10).trans rfl; have p11 : W9.cell? ⟨W.heap.size + 1, 11, none⟩ = some (.bool false) := (blk_cell HX9.out 11).trans rfl; have p12 : W9.cell? ⟨W.heap.size + 1, 12, none⟩ = some (.int .i64 0) := (blk_cell HX9.out 12).trans rfl; have f0 : W9.cell? ⟨fb, 0, none⟩ = some (.string WFacts.away) := (blk_cell HF9.out 0).trans rfl; have f1 : W9.cell? ⟨fb, 1, none⟩ = some (.bool true) := (blk_cell HF9.out 1).trans rfl; have f2 : W9.cell? ⟨fb, 2, none⟩ = some (.bool false) := (blk_cell HF9.out 2).trans rfl; have f3 : W9.cell? ⟨fb, 3, none⟩ = some (.bool true) := (blk_cell HF9.out 3).trans rfl; have f4 : W9.cell? ⟨fb, 4, none⟩ = some (.bool false) := (blk_cell HF9.out 4).trans rfl)
  clear g0 g1 g2 p0 p1 p2 p3 p4 p5 p6 p7 p8 p9 p10 p11 p12 f0 f1 f2 f3 f4
  refine (clock_Print.calls 60 4 5 40 7 1 16 4 _ W9 WFacts.print).mono ?_
  rintro e Wa ⟨rfl, hba⟩
  have HRa := Lib.hid (Kd.R_below HR9.out hba)
  have HSa := Lib.hid (below_step HS9.out hba)
  clear hba HR9 HS9 HG9 HX9 HF9
  go_wp2_with fail
  refine (strings_Split.calls WFacts.time ⟨#[32]⟩ _ Wa WFacts.cut).mono ?_
  rintro e Wb ⟨vs, rfl, hRs, hbb⟩
  obtain ⟨As, cs, rfl, hcs, hCs⟩ := Kd.R_reads hRs
  have HRb := Lib.hid (Kd.R_below HRa.out hbb)
  have HSb := Lib.hid (below_step HSa.out hbb)
  have HCs := Lib.hid hCs
  clear hRs hbb hCs HRa HSa
  rw [show [WFacts.wks, WFacts.m, WFacts.slots].length = 3 from rfl] at *
  go_wp2_with (at_builtin; refine Kd.R_append_row Value.string ByteArray.empty (h1 := fun _ => rfl) (w0 := W6) W6.heap.size rfl (.tmp 72) (.tmp 77) 69 9 (.string ⟨#[]⟩) 16 rfl Tryz.underlying69 info9B rfl (by omega) _ ([WFacts.away] ++ [WFacts.zero]) [WFacts.wks, WFacts.m, WFacts.slots] As 3 cs (fun _ => True) rfl rfl (fun _ _ => trivial) HRb.out HCs.out HSb.out (below_size HSb.out) ?aL ?_; (case aL => decide); intro vc Wc HOc Hbc hgc _; clear hgc; obtain ⟨Aj, cj, rfl, hcj, hCj⟩ := Kd.R_reads HOc; have HCj := Lib.hid hCj; have HSc := Lib.hid Hbc; clear HOc Hbc hCj; have f4 : Wc.cell? ⟨fb, 4, none⟩ = some (.bool false) := (blk_cell (blk_below HF6.out HSc.out) 4).trans rfl)
  refine (word_Join.calls 60 Aj cj ([WFacts.away] ++ [WFacts.zero] ++ [WFacts.wks, WFacts.m, WFacts.slots]) _ Wc HCj.out hcj WFacts.join).mono ?_
  rintro e Wd ⟨rfl, hbd⟩
  go_wp2_with fail
  go_ret2
  exact ⟨rfl, below_step (below_step HB6.out HSc.out) hbd⟩
end Go.Proofs.YtklgecdklngekaaGreatDoor.WPrint
