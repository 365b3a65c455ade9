/- wish.back, undo, most, there at the example -/
import Derived.Test.YtklgecdklngekaaGreatDoorWIx
namespace Go.Proofs.YtklgecdklngekaaGreatDoor.WBack
set_option linter.unusedVariables false
set_option linter.unusedSimpArgs false
open Go.RowKit Go.Proofs.YtklgecdklngekaaGreatDoorW.PrintWords Go.Proofs.YtklgecdklngekaaGreatDoorW.PrintLast Go.Proofs.YtklgecdklngekaaGreatDoor.Q Go.Proofs.YtklgecdklngekaaGreatDoor.WPers Go.Proofs.YtklgecdklngekaaGreatDoor.WExm Go.Proofs.YtklgecdklngekaaGreatDoor.WIx
set_option maxHeartbeats 4000000 in
set_option maxRecDepth 100000 in
theorem back0 (W : World) : Calls Tryz.prog 80 #[.slice none 0 0, .agg #[.int .i64 1, .int .i64 0, .int .i64 0, .int .u32 7, .int .u8 1, .int .i64 16, .int .i64 4, .int .i64 0, .slice none 0 0, .int .i64 0, .int .i64 0, .bool false, .int .i64 0], .int .i64 2, .bool true] W fun e w' => e = .returned (.tuple #[.agg #[.int .i64 2, .int .i64 0, .int .i64 0, .int .u32 7, .int .u8 1, .int .i64 16, .int .i64 4, .int .i64 0, .slice none 0 0, .int .i64 0, .int .i64 0, .bool false, .int .i64 0], .int .i64 0]) ∧ Below W.heap.size W w' := by
  have hu_0 := Tryz.underlying31
  have hu_1 := Tryz.underlying25
  go_enter Tryz.func80, Tryz.ntmps80
  go_wp2_with fail
  have HB0 := Lib.hid (blk_alloc (blk_new W (.cells #[.int .i64 1, .int .i64 0, .int .i64 0, .int .u32 7, .int .u8 1, .int .i64 16, .int .i64 4, .int .i64 0, .slice none 0 0, .int .i64 0, .int .i64 0, .bool false, .int .i64 0] 31)) (.cells #[.int .i64 0, .int .i64 0, .int .i64 0, .int .u32 0, .int .u8 0, .int .i64 0, .int .i64 0, .int .i64 0, .slice none 0 0, .int .i64 0, .int .i64 0, .bool false, .int .i64 0] 31))
  have hn1 := blk_new (W.alloc (.cells #[.int .i64 1, .int .i64 0, .int .i64 0, .int .u32 7, .int .u8 1, .int .i64 16, .int .i64 4, .int .i64 0, .slice none 0 0, .int .i64 0, .int .i64 0, .bool false, .int .i64 0] 31)) (.cells #[.int .i64 0, .int .i64 0, .int .i64 0, .int .u32 0, .int .u8 0, .int .i64 0, .int .i64 0, .int .i64 0, .slice none 0 0, .int .i64 0, .int .i64 0, .bool false, .int .i64 0] 31)
  rw [World.size_alloc] at hn1
  have HB1 := Lib.hid (hn1)
  clear hn1
  have HBW := Lib.hid (below_alloc (below_alloc (Below.refl W.heap.size W) (.cells #[.int .i64 1, .int .i64 0, .int .i64 0, .int .u32 7, .int .u8 1, .int .i64 16, .int .i64 4, .int .i64 0, .slice none 0 0, .int .i64 0, .int .i64 0, .bool false, .int .i64 0] 31)) (.cells #[.int .i64 0, .int .i64 0, .int .i64 0, .int .u32 0, .int .u8 0, .int .i64 0, .int .i64 0, .int .i64 0, .slice none 0 0, .int .i64 0, .int .i64 0, .bool false, .int .i64 0] 31))
  generalize (W.alloc (.cells #[.int .i64 1, .int .i64 0, .int .i64 0, .int .u32 7, .int .u8 1, .int .i64 16, .int .i64 4, .int .i64 0, .slice none 0 0, .int .i64 0, .int .i64 0, .bool false, .int .i64 0] 31)).alloc (.cells #[.int .i64 0, .int .i64 0, .int .i64 0, .int .u32 0, .int .u8 0, .int .i64 0, .int .i64 0, .int .i64 0, .slice none 0 0, .int .i64 0, .int .i64 0, .bool false, .int .i64 0] 31) = W1 at *
  refine (index0 none 0 W1).mono ?_
  rintro e W2 ⟨rfl, hb⟩
  have HX2 := Lib.hid (blk_below HB0.out hb)
  have HR2 := Lib.hid (blk_below HB1.out hb)
  have HBX := Lib.hid (below_step HBW.out hb)
  clear hb HB0 HB1 HBW
  have x0 : W2.cell? ⟨W.heap.size, 0, none⟩ = some (.int .i64 1) := (blk_cell HX2.out 0).trans rfl
  have x1 : W2.cell? ⟨W.heap.size, 1, none⟩ = some (.int .i64 0) := (blk_cell HX2.out 1).trans rfl
  have x2 : W2.cell? ⟨W.heap.size, 2, none⟩ = some (.int .i64 0) := (blk_cell HX2.out 2).trans rfl
  have x3 : W2.cell? ⟨W.heap.size, 3, none⟩ = some (.int .u32 7) := (blk_cell HX2.out 3).trans rfl
  have x4 : W2.cell? ⟨W.heap.size, 4, none⟩ = some (.int .u8 1) := (blk_cell HX2.out 4).trans rfl
  have x5 : W2.cell? ⟨W.heap.size, 5, none⟩ = some (.int .i64 16) := (blk_cell HX2.out 5).trans rfl
  have x6 : W2.cell? ⟨W.heap.size, 6, none⟩ = some (.int .i64 4) := (blk_cell HX2.out 6).trans rfl
  have x7 : W2.cell? ⟨W.heap.size, 7, none⟩ = some (.int .i64 0) := (blk_cell HX2.out 7).trans rfl
  have x8 : W2.cell? ⟨W.heap.size, 8, none⟩ = some (.slice none 0 0) := (blk_cell HX2.out 8).trans rfl
  have x9 : W2.cell? ⟨W.heap.size, 9, none⟩ = some (.int .i64 0) := (blk_cell HX2.out 9).trans rfl
  have x10 : W2.cell? ⟨W.heap.size, 10, none⟩ = some (.int .i64 0) := (blk_cell HX2.out 10).trans rfl
  have x11 : W2.cell? ⟨W.heap.size, 11, none⟩ = some (.bool false) := (blk_cell HX2.out 11).trans rfl
  have x12 : W2.cell? ⟨W.heap.size, 12, none⟩ = some (.int .i64 0) := (blk_cell HX2.out 12).trans rfl
  have z0 : W2.cell? ⟨W.heap.size + 1, 0, none⟩ = some (.int .i64 0) := (blk_cell HR2.out 0).trans rfl
  have fz0 : W2.frozen? ⟨W.heap.size + 1, 0, none⟩ = false := blk_frozen HR2.out 0
  have z1 : W2.cell? ⟨W.heap.size + 1, 1, none⟩ = some (.int .i64 0) := (blk_cell HR2.out 1).trans rfl
  have fz1 : W2.frozen? ⟨W.heap.size + 1, 1, none⟩ = false := blk_frozen HR2.out 1
  have z2 : W2.cell? ⟨W.heap.size + 1, 2, none⟩ = some (.int .i64 0) := (blk_cell HR2.out 2).trans rfl
  have fz2 : W2.frozen? ⟨W.heap.size + 1, 2, none⟩ = false := blk_frozen HR2.out 2
  have z3 : W2.cell? ⟨W.heap.size + 1, 3, none⟩ = some (.int .u32 0) := (blk_cell HR2.out 3).trans rfl
  have fz3 : W2.frozen? ⟨W.heap.size + 1, 3, none⟩ = false := blk_frozen HR2.out 3
  have z4 : W2.cell? ⟨W.heap.size + 1, 4, none⟩ = some (.int .u8 0) := (blk_cell HR2.out 4).trans rfl
  have fz4 : W2.frozen? ⟨W.heap.size + 1, 4, none⟩ = false := blk_frozen HR2.out 4
  have z5 : W2.cell? ⟨W.heap.size + 1, 5, none⟩ = some (.int .i64 0) := (blk_cell HR2.out 5).trans rfl
  have fz5 : W2.frozen? ⟨W.heap.size + 1, 5, none⟩ = false := blk_frozen HR2.out 5
  have z6 : W2.cell? ⟨W.heap.size + 1, 6, none⟩ = some (.int .i64 0) := (blk_cell HR2.out 6).trans rfl
  have fz6 : W2.frozen? ⟨W.heap.size + 1, 6, none⟩ = false := blk_frozen HR2.out 6
  have z7 : W2.cell? ⟨W.heap.size + 1, 7, none⟩ = some (.int .i64 0) := (blk_cell HR2.out 7).trans rfl
  have fz7 : W2.frozen? ⟨W.heap.size + 1, 7, none⟩ = false := blk_frozen HR2.out 7
  have z8 : W2.cell? ⟨W.heap.size + 1, 8, none⟩ = some (.slice none 0 0) := (blk_cell HR2.out 8).trans rfl
  have fz8 : W2.frozen? ⟨W.heap.size + 1, 8, none⟩ = false := blk_frozen HR2.out 8
  have z9 : W2.cell? ⟨W.heap.size + 1, 9, none⟩ = some (.int .i64 0) := (blk_cell HR2.out 9).trans rfl
  have fz9 : W2.frozen? ⟨W.heap.size + 1, 9, none⟩ = false := blk_frozen HR2.out 9
  have z10 : W2.cell? ⟨W.heap.size + 1, 10, none⟩ = some (.int .i64 0) := (blk_cell HR2.out 10).trans rfl
  have fz10 : W2.frozen? ⟨W.heap.size + 1, 10, none⟩ = false := blk_frozen HR2.out 10
  have z11 : W2.cell? ⟨W.heap.size + 1, 11, none⟩ = some (.bool false) := (blk_cell HR2.out 11).trans rfl
  have fz11 : W2.frozen? ⟨W.heap.size + 1, 11, none⟩ = false := blk_frozen HR2.out 11
  have z12 : W2.cell? ⟨W.heap.size + 1, 12, none⟩ = some (.int .i64 0) := (blk_cell HR2.out 12).trans rfl
  have fz12 : W2.frozen? ⟨W.heap.size + 1, 12, none⟩ = false := blk_frozen HR2.out 12
  go_wp2_with fail
  refine bodyPost_ret (results_ct rfl _ _ (W.heap.size + 1) 31 #[.int .i64 2, .int .i64 0, .int .i64 0, .int .u32 7, .int .u8 1, .int .i64 16, .int .i64 4, .int .i64 0, .slice none 0 0, .int .i64 0, .int .i64 0, .bool false, .int .i64 0] (0, 0) _ rfl (blk_set (blk_set (blk_set (blk_set (blk_set (blk_set (blk_set (blk_set (blk_set (blk_set (blk_set (blk_set (blk_set HR2.out 0 _) 1 _) 2 _) 3 _) 4 _) 5 _) 6 _) 7 _) 8 _) 9 _) 10 _) 11 _) 12 _) Tryz.underlying31 rfl (by kernel_rfl)) rfl ?_
  exact ⟨rfl, (((((((((((((HBX.out.setCell (p := ⟨W.heap.size + 1, 0, none⟩) (Nat.le_succ _) _).setCell (p := ⟨W.heap.size + 1, 1, none⟩) (Nat.le_succ _) _).setCell (p := ⟨W.heap.size + 1, 2, none⟩) (Nat.le_succ _) _).setCell (p := ⟨W.heap.size + 1, 3, none⟩) (Nat.le_succ _) _).setCell (p := ⟨W.heap.size + 1, 4, none⟩) (Nat.le_succ _) _).setCell (p := ⟨W.heap.size + 1, 5, none⟩) (Nat.le_succ _) _).setCell (p := ⟨W.heap.size + 1, 6, none⟩) (Nat.le_succ _) _).setCell (p := ⟨W.heap.size + 1, 7, none⟩) (Nat.le_succ _) _).setCell (p := ⟨W.heap.size + 1, 8, none⟩) (Nat.le_succ _) _).setCell (p := ⟨W.heap.size + 1, 9, none⟩) (Nat.le_succ _) _).setCell (p := ⟨W.heap.size + 1, 10, none⟩) (Nat.le_succ _) _).setCell (p := ⟨W.heap.size + 1, 11, none⟩) (Nat.le_succ _) _).setCell (p := ⟨W.heap.size + 1, 12, none⟩) (Nat.le_succ _) _)⟩
set_option maxHeartbeats 4000000 in
set_option maxRecDepth 100000 in
theorem most_p (W : World) (A : Option Addr) (c : Nat) (k : Int) (hk : k = 1 ∨ k = 2) : Calls Tryz.prog 64 #[.agg #[.string ⟨#[112]⟩, .int .i64 4, .int .i64 5, .int .i64 40, .slice none 0 0, .slice none 0 0, .slice A 1 c, .slice none 0 0, .slice none 0 0, .slice none 0 0, .slice none 0 0, .int .i64 0, .int .i64 0, .int .i64 0, .int .i64 0], .int .i64 k] W fun e w' => e = .returned (.int .i64 1) ∧ Below W.heap.size W w' := by
  have hu50 := Tryz.underlying50
  rcases hk with rfl | rfl
  all_goals
    go_enter Tryz.func64, Tryz.ntmps64
    go_wp2
    go_ret
    exact ⟨rfl, below_alloc (Below.refl _ _) _⟩
set_option maxHeartbeats 4000000 in
set_option maxRecDepth 100000 in
theorem most_c (W : World) (A : Option Addr) (c : Nat) : Calls Tryz.prog 64 #[.agg #[.string ⟨#[112]⟩, .int .i64 4, .int .i64 5, .int .i64 40, .slice none 0 0, .slice none 0 0, .slice A 1 c, .slice none 0 0, .slice none 0 0, .slice none 0 0, .slice none 0 0, .int .i64 0, .int .i64 0, .int .i64 0, .int .i64 0], .int .i64 5] W fun e w' => e = .returned (.int .i64 0) ∧ Below W.heap.size W w' := by
  have hu50 := Tryz.underlying50
  go_enter Tryz.func64, Tryz.ntmps64
  go_wp2
  go_ret
  exact ⟨rfl, below_alloc (Below.refl _ _) _⟩
set_option maxHeartbeats 4000000 in
set_option maxRecDepth 100000 in
theorem there1 (W : World) (A : Option Addr) (c : Nat) : Calls Tryz.prog 35 #[.agg #[.string ⟨#[112]⟩, .int .i64 4, .int .i64 5, .int .i64 40, .slice none 0 0, .slice none 0 0, .slice A 1 c, .slice none 0 0, .slice none 0 0, .slice none 0 0, .slice none 0 0, .int .i64 0, .int .i64 0, .int .i64 0, .int .i64 0], .agg #[.int .i64 1, .int .i64 0, .int .i64 0, .int .u32 7, .int .u8 1, .int .i64 16, .int .i64 4, .int .i64 0, .slice none 0 0, .int .i64 0, .int .i64 0, .bool false, .int .i64 0]] W fun e w' => e = .returned (.bool true) ∧ Below W.heap.size W w' := by
  have hu_0 := Tryz.underlying50
  have hu_1 := Tryz.underlying31
  go_enter Tryz.func35, Tryz.ntmps35
  go_wp2_with fail
  have HB0 := Lib.hid (blk_alloc (blk_new W (.cells #[.string ⟨#[112]⟩, .int .i64 4, .int .i64 5, .int .i64 40, .slice none 0 0, .slice none 0 0, .slice A 1 c, .slice none 0 0, .slice none 0 0, .slice none 0 0, .slice none 0 0, .int .i64 0, .int .i64 0, .int .i64 0, .int .i64 0] 50)) (.cells #[.int .i64 1, .int .i64 0, .int .i64 0, .int .u32 7, .int .u8 1, .int .i64 16, .int .i64 4, .int .i64 0, .slice none 0 0, .int .i64 0, .int .i64 0, .bool false, .int .i64 0] 31))
  have hn1 := blk_new (W.alloc (.cells #[.string ⟨#[112]⟩, .int .i64 4, .int .i64 5, .int .i64 40, .slice none 0 0, .slice none 0 0, .slice A 1 c, .slice none 0 0, .slice none 0 0, .slice none 0 0, .slice none 0 0, .int .i64 0, .int .i64 0, .int .i64 0, .int .i64 0] 50)) (.cells #[.int .i64 1, .int .i64 0, .int .i64 0, .int .u32 7, .int .u8 1, .int .i64 16, .int .i64 4, .int .i64 0, .slice none 0 0, .int .i64 0, .int .i64 0, .bool false, .int .i64 0] 31)
  rw [World.size_alloc] at hn1
  have HB1 := Lib.hid (hn1)
  clear hn1
  have HBW := Lib.hid (below_alloc (below_alloc (Below.refl W.heap.size W) (.cells #[.string ⟨#[112]⟩, .int .i64 4, .int .i64 5, .int .i64 40, .slice none 0 0, .slice none 0 0, .slice A 1 c, .slice none 0 0, .slice none 0 0, .slice none 0 0, .slice none 0 0, .int .i64 0, .int .i64 0, .int .i64 0, .int .i64 0] 50)) (.cells #[.int .i64 1, .int .i64 0, .int .i64 0, .int .u32 7, .int .u8 1, .int .i64 16, .int .i64 4, .int .i64 0, .slice none 0 0, .int .i64 0, .int .i64 0, .bool false, .int .i64 0] 31))
  generalize (W.alloc (.cells #[.string ⟨#[112]⟩, .int .i64 4, .int .i64 5, .int .i64 40, .slice none 0 0, .slice none 0 0, .slice A 1 c, .slice none 0 0, .slice none 0 0, .slice none 0 0, .slice none 0 0, .int .i64 0, .int .i64 0, .int .i64 0, .int .i64 0] 50)).alloc (.cells #[.int .i64 1, .int .i64 0, .int .i64 0, .int .u32 7, .int .u8 1, .int .i64 16, .int .i64 4, .int .i64 0, .slice none 0 0, .int .i64 0, .int .i64 0, .bool false, .int .i64 0] 31) = W1 at *
  have hbd : Below W1.heap.size W1 W1.drew := (Below.refl _ _).drew
  have HP6 := Lib.hid (blk_below HB0.out hbd)
  have HX6 := Lib.hid (blk_below HB1.out hbd)
  have HB6 := Lib.hid (below_step HBW.out hbd)
  clear hbd HB0 HB1 HBW
  refine start_ (n := 12) (S := fun w' => w'.cell? ⟨W.heap.size, 0, none⟩ = some (.string ⟨#[112]⟩) ∧ w'.cell? ⟨W.heap.size, 1, none⟩ = some (.int .i64 4) ∧ w'.cell? ⟨W.heap.size, 2, none⟩ = some (.int .i64 5) ∧ w'.cell? ⟨W.heap.size, 3, none⟩ = some (.int .i64 40) ∧ w'.cell? ⟨W.heap.size, 4, none⟩ = some (.slice none 0 0) ∧ w'.cell? ⟨W.heap.size, 5, none⟩ = some (.slice none 0 0) ∧ w'.cell? ⟨W.heap.size, 6, none⟩ = some (.slice A 1 c) ∧ w'.cell? ⟨W.heap.size, 7, none⟩ = some (.slice none 0 0) ∧ w'.cell? ⟨W.heap.size, 8, none⟩ = some (.slice none 0 0) ∧ w'.cell? ⟨W.heap.size, 9, none⟩ = some (.slice none 0 0) ∧ w'.cell? ⟨W.heap.size, 10, none⟩ = some (.slice none 0 0) ∧ w'.cell? ⟨W.heap.size, 11, none⟩ = some (.int .i64 0) ∧ w'.cell? ⟨W.heap.size, 12, none⟩ = some (.int .i64 0) ∧ w'.cell? ⟨W.heap.size, 13, none⟩ = some (.int .i64 0) ∧ w'.cell? ⟨W.heap.size, 14, none⟩ = some (.int .i64 0) ∧ w'.cell? ⟨W.heap.size + 1, 0, none⟩ = some (.int .i64 1) ∧ w'.cell? ⟨W.heap.size + 1, 1, none⟩ = some (.int .i64 0)) (ds := []) #[false, false, false, false, false, false, false, false, false, false, false, false] (by kernel_rfl) rfl rfl ⟨(blk_cell HP6.out 0).trans rfl, (blk_cell HP6.out 1).trans rfl, (blk_cell HP6.out 2).trans rfl, (blk_cell HP6.out 3).trans rfl, (blk_cell HP6.out 4).trans rfl, (blk_cell HP6.out 5).trans rfl, (blk_cell HP6.out 6).trans rfl, (blk_cell HP6.out 7).trans rfl, (blk_cell HP6.out 8).trans rfl, (blk_cell HP6.out 9).trans rfl, (blk_cell HP6.out 10).trans rfl, (blk_cell HP6.out 11).trans rfl, (blk_cell HP6.out 12).trans rfl, (blk_cell HP6.out 13).trans rfl, (blk_cell HP6.out 14).trans rfl, (blk_cell HX6.out 0).trans rfl, (blk_cell HX6.out 1).trans rfl⟩ (fun hHeld => ?_)
  generalize W1.drew = W6 at *
  refine pure_ (i := 0) (N := some 5) (v := ?_) (a' := ?_) #[true, false, false, false, false, false, false, false, false, false, false, false] rfl rfl (by kernel_rfl) (fun _ _ _ h => h) (Or.inl ⟨by rfl, ?_⟩) ?_ ?_
  rotate_left
  · intro w'
    go_simp
    with_reducible rfl
  rotate_left
  · simp only [Act.put, List.setIfInBounds_toArray, List.set_cons_zero, List.set_cons_succ, i64_w, i32_w]
    rfl
  refine take_ (i := 1) (N := some 6) (v := ?_) (a' := ?_) #[true, true, false, false, false, false, false, false, false, false, false, false] rfl rfl (by kernel_rfl) (fun _ _ _ h => h) (Or.inl ⟨by rfl, ?_⟩) hHeld ?_ ?_
  rotate_left
  · rintro w' ⟨s0, s1, s2, s3, s4, s5, s6, s7, s8, s9, s10, s11, s12, s13, s14, s15, s16⟩
    go_simp
    with_reducible rfl
  rotate_left
  · simp only [Act.put, List.setIfInBounds_toArray, List.set_cons_zero, List.set_cons_succ, i64_w, i32_w]
    rfl
  refine pure_ (i := 2) (N := some 7) (v := ?_) (a' := ?_) #[true, true, true, false, false, false, false, false, false, false, false, false] rfl rfl (by kernel_rfl) (fun _ _ _ h => h) (Or.inl ⟨by rfl, ?_⟩) ?_ ?_
  rotate_left
  · intro w'
    go_simp
    with_reducible rfl
  rotate_left
  · simp only [Act.put, List.setIfInBounds_toArray, List.set_cons_zero, List.set_cons_succ, i64_w, i32_w]
    rfl
  refine pure_ (i := 3) (N := some 8) (v := ?_) (a' := ?_) #[true, true, true, true, false, false, false, false, false, false, false, false] rfl rfl (by kernel_rfl) (fun _ _ _ h => h) (Or.inl ⟨by rfl, ?_⟩) ?_ ?_
  rotate_left
  · intro w'
    go_simp
    with_reducible rfl
  rotate_left
  · simp only [Act.put, List.setIfInBounds_toArray, List.set_cons_zero, List.set_cons_succ, i64_w, i32_w]
    rfl
  refine pure_ (i := 4) (N := some 9) (v := ?_) (a' := ?_) #[true, true, true, true, true, false, false, false, false, false, false, false] rfl rfl (by kernel_rfl) (fun _ _ _ h => h) (Or.inl ⟨by rfl, ?_⟩) ?_ ?_
  rotate_left
  · intro w'
    go_simp
    with_reducible rfl
  rotate_left
  · simp only [Act.put, List.setIfInBounds_toArray, List.set_cons_zero, List.set_cons_succ, i64_w, i32_w]
    rfl
  refine take_ (i := 5) (N := some 10) (v := ?_) (a' := ?_) #[true, true, true, true, true, true, false, false, false, false, false, false] rfl rfl (by kernel_rfl) (fun _ _ _ h => h) (Or.inl ⟨by rfl, ?_⟩) hHeld ?_ ?_
  rotate_left
  · rintro w' ⟨s0, s1, s2, s3, s4, s5, s6, s7, s8, s9, s10, s11, s12, s13, s14, s15, s16⟩
    go_simp
    with_reducible rfl
  rotate_left
  · simp only [Act.put, List.setIfInBounds_toArray, List.set_cons_zero, List.set_cons_succ, i64_w, i32_w]
    rfl
  refine take_ (i := 6) (N := some 11) (v := ?_) (a' := ?_) #[true, true, true, true, true, true, true, false, false, false, false, false] rfl rfl (by kernel_rfl) (fun _ _ _ h => h) (Or.inl ⟨by rfl, ?_⟩) hHeld ?_ ?_
  rotate_left
  · rintro w' ⟨s0, s1, s2, s3, s4, s5, s6, s7, s8, s9, s10, s11, s12, s13, s14, s15, s16⟩
    go_simp
    with_reducible rfl
  rotate_left
  · simp only [Act.put, List.setIfInBounds_toArray, List.set_cons_zero, List.set_cons_succ, i64_w, i32_w]
    rfl
  refine pure_ (i := 7) (N := some 12) (v := ?_) (a' := ?_) #[true, true, true, true, true, true, true, true, false, false, false, false] rfl rfl (by kernel_rfl) (fun _ _ _ h => h) (Or.inl ⟨by rfl, ?_⟩) ?_ ?_
  rotate_left
  · intro w'
    go_simp
    with_reducible rfl
  rotate_left
  · simp only [Act.put, List.setIfInBounds_toArray, List.set_cons_zero, List.set_cons_succ, i64_w, i32_w]
    rfl
  refine take_ (i := 8) (N := some 13) (v := ?_) (a' := ?_) #[true, true, true, true, true, true, true, true, true, false, false, false] rfl rfl (by kernel_rfl) (fun _ _ _ h => h) (Or.inl ⟨by rfl, ?_⟩) hHeld ?_ ?_
  rotate_left
  · rintro w' ⟨s0, s1, s2, s3, s4, s5, s6, s7, s8, s9, s10, s11, s12, s13, s14, s15, s16⟩
    go_simp
    with_reducible rfl
  rotate_left
  · simp only [Act.put, List.setIfInBounds_toArray, List.set_cons_zero, List.set_cons_succ, i64_w, i32_w]
    rfl
  refine one_ (i := 9) (N := some 14) #[true, true, true, true, true, true, true, true, true, true, false, false] rfl rfl (by kernel_rfl) (by decide) (fun K hK => ?_)
  refine goes_ Tryz.func64 (by kernel_rfl) rfl #[.agg #[.string ⟨#[112]⟩, .int .i64 4, .int .i64 5, .int .i64 40, .slice none 0 0, .slice none 0 0, .slice A 1 c, .slice none 0 0, .slice none 0 0, .slice none 0 0, .slice none 0 0, .int .i64 0, .int .i64 0, .int .i64 0, .int .i64 0], .int .i64 1] (by rfl) rfl rfl (by simp only [List.map_toArray, List.map_cons, List.map_nil]; rfl) ?_
  refine (most_p W6 A c 1 (by decide)).mono ?_
  rintro e W7 ⟨rfl, hb7⟩
  refine ⟨_, rfl, ?_⟩
  have HP7 := Lib.hid (blk_below HP6.out hb7)
  have HX7 := Lib.hid (blk_below HX6.out hb7)
  have HB7 := Lib.hid (below_step HB6.out hb7)
  clear hb7 HP6 HX6 HB6
  refine hK.out _ _ ⟨(blk_cell HP7.out 0).trans rfl, (blk_cell HP7.out 1).trans rfl, (blk_cell HP7.out 2).trans rfl, (blk_cell HP7.out 3).trans rfl, (blk_cell HP7.out 4).trans rfl, (blk_cell HP7.out 5).trans rfl, (blk_cell HP7.out 6).trans rfl, (blk_cell HP7.out 7).trans rfl, (blk_cell HP7.out 8).trans rfl, (blk_cell HP7.out 9).trans rfl, (blk_cell HP7.out 10).trans rfl, (blk_cell HP7.out 11).trans rfl, (blk_cell HP7.out 12).trans rfl, (blk_cell HP7.out 13).trans rfl, (blk_cell HP7.out 14).trans rfl, (blk_cell HX7.out 0).trans rfl, (blk_cell HX7.out 1).trans rfl⟩ (fun hHeld => ?_)
  clear hK K
  refine norm_ (a' := ?_) ?_ ?_
  rotate_left
  · show Act.put _ (some 14) _ = _
    simp only [Act.put, List.setIfInBounds_toArray, List.set_cons_zero, List.set_cons_succ, i64_w, i32_w]
    rfl
  refine pure_ (i := 10) (N := some 15) (v := ?_) (a' := ?_) #[true, true, true, true, true, true, true, true, true, true, true, false] rfl rfl (by kernel_rfl) (fun _ _ _ h => h) (Or.inl ⟨by rfl, ?_⟩) ?_ ?_
  rotate_left
  · intro w'
    go_simp
    with_reducible rfl
  rotate_left
  · simp only [Act.put, List.setIfInBounds_toArray, List.set_cons_zero, List.set_cons_succ, i64_w, i32_w]
    rfl
  refine pure_ (i := 11) (N := some 16) (v := ?_) (a' := ?_) #[true, true, true, true, true, true, true, true, true, true, true, true] rfl rfl (by kernel_rfl) (fun _ _ _ h => h) (Or.inl ⟨by rfl, ?_⟩) ?_ ?_
  rotate_left
  · intro w'
    go_simp
    with_reducible rfl
  rotate_left
  · simp only [Act.put, List.setIfInBounds_toArray, List.set_cons_zero, List.set_cons_succ, i64_w, i32_w]
    rfl
  refine done_ (by kernel_rfl) ?_
  have p6 : W7.cell? ⟨W.heap.size, 6, none⟩ = some (.slice A 1 c) := (blk_cell HP7.out 6).trans rfl
  have x0 : W7.cell? ⟨W.heap.size + 1, 0, none⟩ = some (.int .i64 1) := (blk_cell HX7.out 0).trans rfl
  have x1 : W7.cell? ⟨W.heap.size + 1, 1, none⟩ = some (.int .i64 0) := (blk_cell HX7.out 1).trans rfl
  have x2 : W7.cell? ⟨W.heap.size + 1, 2, none⟩ = some (.int .i64 0) := (blk_cell HX7.out 2).trans rfl
  go_wp2_with fail
  go_ret
  exact ⟨rfl, HB7.out⟩
set_option maxHeartbeats 4000000 in
set_option maxRecDepth 100000 in
theorem there2 (W : World) (A : Option Addr) (c : Nat) : Calls Tryz.prog 35 #[.agg #[.string ⟨#[112]⟩, .int .i64 4, .int .i64 5, .int .i64 40, .slice none 0 0, .slice none 0 0, .slice A 1 c, .slice none 0 0, .slice none 0 0, .slice none 0 0, .slice none 0 0, .int .i64 0, .int .i64 0, .int .i64 0, .int .i64 0], .agg #[.int .i64 2, .int .i64 0, .int .i64 0, .int .u32 7, .int .u8 1, .int .i64 16, .int .i64 4, .int .i64 0, .slice none 0 0, .int .i64 0, .int .i64 0, .bool false, .int .i64 0]] W fun e w' => e = .returned (.bool true) ∧ Below W.heap.size W w' := by
  have hu_0 := Tryz.underlying50
  have hu_1 := Tryz.underlying31
  go_enter Tryz.func35, Tryz.ntmps35
  go_wp2_with fail
  have HB0 := Lib.hid (blk_alloc (blk_new W (.cells #[.string ⟨#[112]⟩, .int .i64 4, .int .i64 5, .int .i64 40, .slice none 0 0, .slice none 0 0, .slice A 1 c, .slice none 0 0, .slice none 0 0, .slice none 0 0, .slice none 0 0, .int .i64 0, .int .i64 0, .int .i64 0, .int .i64 0] 50)) (.cells #[.int .i64 2, .int .i64 0, .int .i64 0, .int .u32 7, .int .u8 1, .int .i64 16, .int .i64 4, .int .i64 0, .slice none 0 0, .int .i64 0, .int .i64 0, .bool false, .int .i64 0] 31))
  have hn1 := blk_new (W.alloc (.cells #[.string ⟨#[112]⟩, .int .i64 4, .int .i64 5, .int .i64 40, .slice none 0 0, .slice none 0 0, .slice A 1 c, .slice none 0 0, .slice none 0 0, .slice none 0 0, .slice none 0 0, .int .i64 0, .int .i64 0, .int .i64 0, .int .i64 0] 50)) (.cells #[.int .i64 2, .int .i64 0, .int .i64 0, .int .u32 7, .int .u8 1, .int .i64 16, .int .i64 4, .int .i64 0, .slice none 0 0, .int .i64 0, .int .i64 0, .bool false, .int .i64 0] 31)
  rw [World.size_alloc] at hn1
  have HB1 := Lib.hid (hn1)
  clear hn1
  have HBW := Lib.hid (below_alloc (below_alloc (Below.refl W.heap.size W) (.cells #[.string ⟨#[112]⟩, .int .i64 4, .int .i64 5, .int .i64 40, .slice none 0 0, .slice none 0 0, .slice A 1 c, .slice none 0 0, .slice none 0 0, .slice none 0 0, .slice none 0 0, .int .i64 0, .int .i64 0, .int .i64 0, .int .i64 0] 50)) (.cells #[.int .i64 2, .int .i64 0, .int .i64 0, .int .u32 7, .int .u8 1, .int .i64 16, .int .i64 4, .int .i64 0, .slice none 0 0, .int .i64 0, .int .i64 0, .bool false, .int .i64 0] 31))
  generalize (W.alloc (.cells #[.string ⟨#[112]⟩, .int .i64 4, .int .i64 5, .int .i64 40, .slice none 0 0, .slice none 0 0, .slice A 1 c, .slice none 0 0, .slice none 0 0, .slice none 0 0, .slice none 0 0, .int .i64 0, .int .i64 0, .int .i64 0, .int .i64 0] 50)).alloc (.cells #[.int .i64 2, .int .i64 0, .int .i64 0, .int .u32 7, .int .u8 1, .int .i64 16, .int .i64 4, .int .i64 0, .slice none 0 0, .int .i64 0, .int .i64 0, .bool false, .int .i64 0] 31) = W1 at *
  have hbd : Below W1.heap.size W1 W1.drew := (Below.refl _ _).drew
  have HP6 := Lib.hid (blk_below HB0.out hbd)
  have HX6 := Lib.hid (blk_below HB1.out hbd)
  have HB6 := Lib.hid (below_step HBW.out hbd)
  clear hbd HB0 HB1 HBW
  refine start_ (n := 12) (S := fun w' => w'.cell? ⟨W.heap.size, 0, none⟩ = some (.string ⟨#[112]⟩) ∧ w'.cell? ⟨W.heap.size, 1, none⟩ = some (.int .i64 4) ∧ w'.cell? ⟨W.heap.size, 2, none⟩ = some (.int .i64 5) ∧ w'.cell? ⟨W.heap.size, 3, none⟩ = some (.int .i64 40) ∧ w'.cell? ⟨W.heap.size, 4, none⟩ = some (.slice none 0 0) ∧ w'.cell? ⟨W.heap.size, 5, none⟩ = some (.slice none 0 0) ∧ w'.cell? ⟨W.heap.size, 6, none⟩ = some (.slice A 1 c) ∧ w'.cell? ⟨W.heap.size, 7, none⟩ = some (.slice none 0 0) ∧ w'.cell? ⟨W.heap.size, 8, none⟩ = some (.slice none 0 0) ∧ w'.cell? ⟨W.heap.size, 9, none⟩ = some (.slice none 0 0) ∧ w'.cell? ⟨W.heap.size, 10, none⟩ = some (.slice none 0 0) ∧ w'.cell? ⟨W.heap.size, 11, none⟩ = some (.int .i64 0) ∧ w'.cell? ⟨W.heap.size, 12, none⟩ = some (.int .i64 0) ∧ w'.cell? ⟨W.heap.size, 13, none⟩ = some (.int .i64 0) ∧ w'.cell? ⟨W.heap.size, 14, none⟩ = some (.int .i64 0) ∧ w'.cell? ⟨W.heap.size + 1, 0, none⟩ = some (.int .i64 2) ∧ w'.cell? ⟨W.heap.size + 1, 1, none⟩ = some (.int .i64 0)) (ds := []) #[false, false, false, false, false, false, false, false, false, false, false, false] (by kernel_rfl) rfl rfl ⟨(blk_cell HP6.out 0).trans rfl, (blk_cell HP6.out 1).trans rfl, (blk_cell HP6.out 2).trans rfl, (blk_cell HP6.out 3).trans rfl, (blk_cell HP6.out 4).trans rfl, (blk_cell HP6.out 5).trans rfl, (blk_cell HP6.out 6).trans rfl, (blk_cell HP6.out 7).trans rfl, (blk_cell HP6.out 8).trans rfl, (blk_cell HP6.out 9).trans rfl, (blk_cell HP6.out 10).trans rfl, (blk_cell HP6.out 11).trans rfl, (blk_cell HP6.out 12).trans rfl, (blk_cell HP6.out 13).trans rfl, (blk_cell HP6.out 14).trans rfl, (blk_cell HX6.out 0).trans rfl, (blk_cell HX6.out 1).trans rfl⟩ (fun hHeld => ?_)
  generalize W1.drew = W6 at *
  refine pure_ (i := 0) (N := some 5) (v := ?_) (a' := ?_) #[true, false, false, false, false, false, false, false, false, false, false, false] rfl rfl (by kernel_rfl) (fun _ _ _ h => h) (Or.inl ⟨by rfl, ?_⟩) ?_ ?_
  rotate_left
  · intro w'
    go_simp
    with_reducible rfl
  rotate_left
  · simp only [Act.put, List.setIfInBounds_toArray, List.set_cons_zero, List.set_cons_succ, i64_w, i32_w]
    rfl
  refine take_ (i := 1) (N := some 6) (v := ?_) (a' := ?_) #[true, true, false, false, false, false, false, false, false, false, false, false] rfl rfl (by kernel_rfl) (fun _ _ _ h => h) (Or.inl ⟨by rfl, ?_⟩) hHeld ?_ ?_
  rotate_left
  · rintro w' ⟨s0, s1, s2, s3, s4, s5, s6, s7, s8, s9, s10, s11, s12, s13, s14, s15, s16⟩
    go_simp
    with_reducible rfl
  rotate_left
  · simp only [Act.put, List.setIfInBounds_toArray, List.set_cons_zero, List.set_cons_succ, i64_w, i32_w]
    rfl
  refine pure_ (i := 2) (N := some 7) (v := ?_) (a' := ?_) #[true, true, true, false, false, false, false, false, false, false, false, false] rfl rfl (by kernel_rfl) (fun _ _ _ h => h) (Or.inl ⟨by rfl, ?_⟩) ?_ ?_
  rotate_left
  · intro w'
    go_simp
    with_reducible rfl
  rotate_left
  · simp only [Act.put, List.setIfInBounds_toArray, List.set_cons_zero, List.set_cons_succ, i64_w, i32_w]
    rfl
  refine pure_ (i := 3) (N := some 8) (v := ?_) (a' := ?_) #[true, true, true, true, false, false, false, false, false, false, false, false] rfl rfl (by kernel_rfl) (fun _ _ _ h => h) (Or.inl ⟨by rfl, ?_⟩) ?_ ?_
  rotate_left
  · intro w'
    go_simp
    with_reducible rfl
  rotate_left
  · simp only [Act.put, List.setIfInBounds_toArray, List.set_cons_zero, List.set_cons_succ, i64_w, i32_w]
    rfl
  refine pure_ (i := 4) (N := some 9) (v := ?_) (a' := ?_) #[true, true, true, true, true, false, false, false, false, false, false, false] rfl rfl (by kernel_rfl) (fun _ _ _ h => h) (Or.inl ⟨by rfl, ?_⟩) ?_ ?_
  rotate_left
  · intro w'
    go_simp
    with_reducible rfl
  rotate_left
  · simp only [Act.put, List.setIfInBounds_toArray, List.set_cons_zero, List.set_cons_succ, i64_w, i32_w]
    rfl
  refine take_ (i := 5) (N := some 10) (v := ?_) (a' := ?_) #[true, true, true, true, true, true, false, false, false, false, false, false] rfl rfl (by kernel_rfl) (fun _ _ _ h => h) (Or.inl ⟨by rfl, ?_⟩) hHeld ?_ ?_
  rotate_left
  · rintro w' ⟨s0, s1, s2, s3, s4, s5, s6, s7, s8, s9, s10, s11, s12, s13, s14, s15, s16⟩
    go_simp
    with_reducible rfl
  rotate_left
  · simp only [Act.put, List.setIfInBounds_toArray, List.set_cons_zero, List.set_cons_succ, i64_w, i32_w]
    rfl
  refine take_ (i := 6) (N := some 11) (v := ?_) (a' := ?_) #[true, true, true, true, true, true, true, false, false, false, false, false] rfl rfl (by kernel_rfl) (fun _ _ _ h => h) (Or.inl ⟨by rfl, ?_⟩) hHeld ?_ ?_
  rotate_left
  · rintro w' ⟨s0, s1, s2, s3, s4, s5, s6, s7, s8, s9, s10, s11, s12, s13, s14, s15, s16⟩
    go_simp
    with_reducible rfl
  rotate_left
  · simp only [Act.put, List.setIfInBounds_toArray, List.set_cons_zero, List.set_cons_succ, i64_w, i32_w]
    rfl
  refine pure_ (i := 7) (N := some 12) (v := ?_) (a' := ?_) #[true, true, true, true, true, true, true, true, false, false, false, false] rfl rfl (by kernel_rfl) (fun _ _ _ h => h) (Or.inl ⟨by rfl, ?_⟩) ?_ ?_
  rotate_left
  · intro w'
    go_simp
    with_reducible rfl
  rotate_left
  · simp only [Act.put, List.setIfInBounds_toArray, List.set_cons_zero, List.set_cons_succ, i64_w, i32_w]
    rfl
  refine take_ (i := 8) (N := some 13) (v := ?_) (a' := ?_) #[true, true, true, true, true, true, true, true, true, false, false, false] rfl rfl (by kernel_rfl) (fun _ _ _ h => h) (Or.inl ⟨by rfl, ?_⟩) hHeld ?_ ?_
  rotate_left
  · rintro w' ⟨s0, s1, s2, s3, s4, s5, s6, s7, s8, s9, s10, s11, s12, s13, s14, s15, s16⟩
    go_simp
    with_reducible rfl
  rotate_left
  · simp only [Act.put, List.setIfInBounds_toArray, List.set_cons_zero, List.set_cons_succ, i64_w, i32_w]
    rfl
  refine one_ (i := 9) (N := some 14) #[true, true, true, true, true, true, true, true, true, true, false, false] rfl rfl (by kernel_rfl) (by decide) (fun K hK => ?_)
  refine goes_ Tryz.func64 (by kernel_rfl) rfl #[.agg #[.string ⟨#[112]⟩, .int .i64 4, .int .i64 5, .int .i64 40, .slice none 0 0, .slice none 0 0, .slice A 1 c, .slice none 0 0, .slice none 0 0, .slice none 0 0, .slice none 0 0, .int .i64 0, .int .i64 0, .int .i64 0, .int .i64 0], .int .i64 2] (by rfl) rfl rfl (by simp only [List.map_toArray, List.map_cons, List.map_nil]; rfl) ?_
  refine (most_p W6 A c 2 (by decide)).mono ?_
  rintro e W7 ⟨rfl, hb7⟩
  refine ⟨_, rfl, ?_⟩
  have HP7 := Lib.hid (blk_below HP6.out hb7)
  have HX7 := Lib.hid (blk_below HX6.out hb7)
  have HB7 := Lib.hid (below_step HB6.out hb7)
  clear hb7 HP6 HX6 HB6
  refine hK.out _ _ ⟨(blk_cell HP7.out 0).trans rfl, (blk_cell HP7.out 1).trans rfl, (blk_cell HP7.out 2).trans rfl, (blk_cell HP7.out 3).trans rfl, (blk_cell HP7.out 4).trans rfl, (blk_cell HP7.out 5).trans rfl, (blk_cell HP7.out 6).trans rfl, (blk_cell HP7.out 7).trans rfl, (blk_cell HP7.out 8).trans rfl, (blk_cell HP7.out 9).trans rfl, (blk_cell HP7.out 10).trans rfl, (blk_cell HP7.out 11).trans rfl, (blk_cell HP7.out 12).trans rfl, (blk_cell HP7.out 13).trans rfl, (blk_cell HP7.out 14).trans rfl, (blk_cell HX7.out 0).trans rfl, (blk_cell HX7.out 1).trans rfl⟩ (fun hHeld => ?_)
  clear hK K
  refine norm_ (a' := ?_) ?_ ?_
  rotate_left
  · show Act.put _ (some 14) _ = _
    simp only [Act.put, List.setIfInBounds_toArray, List.set_cons_zero, List.set_cons_succ, i64_w, i32_w]
    rfl
  refine pure_ (i := 10) (N := some 15) (v := ?_) (a' := ?_) #[true, true, true, true, true, true, true, true, true, true, true, false] rfl rfl (by kernel_rfl) (fun _ _ _ h => h) (Or.inl ⟨by rfl, ?_⟩) ?_ ?_
  rotate_left
  · intro w'
    go_simp
    with_reducible rfl
  rotate_left
  · simp only [Act.put, List.setIfInBounds_toArray, List.set_cons_zero, List.set_cons_succ, i64_w, i32_w]
    rfl
  refine pure_ (i := 11) (N := some 16) (v := ?_) (a' := ?_) #[true, true, true, true, true, true, true, true, true, true, true, true] rfl rfl (by kernel_rfl) (fun _ _ _ h => h) (Or.inl ⟨by rfl, ?_⟩) ?_ ?_
  rotate_left
  · intro w'
    go_simp
    with_reducible rfl
  rotate_left
  · simp only [Act.put, List.setIfInBounds_toArray, List.set_cons_zero, List.set_cons_succ, i64_w, i32_w]
    rfl
  refine done_ (by kernel_rfl) ?_
  have p6 : W7.cell? ⟨W.heap.size, 6, none⟩ = some (.slice A 1 c) := (blk_cell HP7.out 6).trans rfl
  have x0 : W7.cell? ⟨W.heap.size + 1, 0, none⟩ = some (.int .i64 2) := (blk_cell HX7.out 0).trans rfl
  have x1 : W7.cell? ⟨W.heap.size + 1, 1, none⟩ = some (.int .i64 0) := (blk_cell HX7.out 1).trans rfl
  have x2 : W7.cell? ⟨W.heap.size + 1, 2, none⟩ = some (.int .i64 0) := (blk_cell HX7.out 2).trans rfl
  go_wp2_with fail
  go_ret
  exact ⟨rfl, HB7.out⟩
set_option maxHeartbeats 4000000 in
set_option maxRecDepth 100000 in
theorem there5 (W : World) (A : Option Addr) (c : Nat) : Calls Tryz.prog 35 #[.agg #[.string ⟨#[112]⟩, .int .i64 4, .int .i64 5, .int .i64 40, .slice none 0 0, .slice none 0 0, .slice A 1 c, .slice none 0 0, .slice none 0 0, .slice none 0 0, .slice none 0 0, .int .i64 0, .int .i64 0, .int .i64 0, .int .i64 0], .agg #[.int .i64 5, .int .i64 0, .int .i64 0, .int .u32 0, .int .u8 0, .int .i64 0, .int .i64 0, .int .i64 0, .slice none 0 0, .int .i64 0, .int .i64 0, .bool false, .int .i64 0]] W fun e w' => e = .returned (.bool false) ∧ Below W.heap.size W w' := by
  have hu_0 := Tryz.underlying50
  have hu_1 := Tryz.underlying31
  go_enter Tryz.func35, Tryz.ntmps35
  go_wp2_with fail
  have HB0 := Lib.hid (blk_alloc (blk_new W (.cells #[.string ⟨#[112]⟩, .int .i64 4, .int .i64 5, .int .i64 40, .slice none 0 0, .slice none 0 0, .slice A 1 c, .slice none 0 0, .slice none 0 0, .slice none 0 0, .slice none 0 0, .int .i64 0, .int .i64 0, .int .i64 0, .int .i64 0] 50)) (.cells #[.int .i64 5, .int .i64 0, .int .i64 0, .int .u32 0, .int .u8 0, .int .i64 0, .int .i64 0, .int .i64 0, .slice none 0 0, .int .i64 0, .int .i64 0, .bool false, .int .i64 0] 31))
  have hn1 := blk_new (W.alloc (.cells #[.string ⟨#[112]⟩, .int .i64 4, .int .i64 5, .int .i64 40, .slice none 0 0, .slice none 0 0, .slice A 1 c, .slice none 0 0, .slice none 0 0, .slice none 0 0, .slice none 0 0, .int .i64 0, .int .i64 0, .int .i64 0, .int .i64 0] 50)) (.cells #[.int .i64 5, .int .i64 0, .int .i64 0, .int .u32 0, .int .u8 0, .int .i64 0, .int .i64 0, .int .i64 0, .slice none 0 0, .int .i64 0, .int .i64 0, .bool false, .int .i64 0] 31)
  rw [World.size_alloc] at hn1
  have HB1 := Lib.hid (hn1)
  clear hn1
  have HBW := Lib.hid (below_alloc (below_alloc (Below.refl W.heap.size W) (.cells #[.string ⟨#[112]⟩, .int .i64 4, .int .i64 5, .int .i64 40, .slice none 0 0, .slice none 0 0, .slice A 1 c, .slice none 0 0, .slice none 0 0, .slice none 0 0, .slice none 0 0, .int .i64 0, .int .i64 0, .int .i64 0, .int .i64 0] 50)) (.cells #[.int .i64 5, .int .i64 0, .int .i64 0, .int .u32 0, .int .u8 0, .int .i64 0, .int .i64 0, .int .i64 0, .slice none 0 0, .int .i64 0, .int .i64 0, .bool false, .int .i64 0] 31))
  generalize (W.alloc (.cells #[.string ⟨#[112]⟩, .int .i64 4, .int .i64 5, .int .i64 40, .slice none 0 0, .slice none 0 0, .slice A 1 c, .slice none 0 0, .slice none 0 0, .slice none 0 0, .slice none 0 0, .int .i64 0, .int .i64 0, .int .i64 0, .int .i64 0] 50)).alloc (.cells #[.int .i64 5, .int .i64 0, .int .i64 0, .int .u32 0, .int .u8 0, .int .i64 0, .int .i64 0, .int .i64 0, .slice none 0 0, .int .i64 0, .int .i64 0, .bool false, .int .i64 0] 31) = W1 at *
  have hbd : Below W1.heap.size W1 W1.drew := (Below.refl _ _).drew
  have HP6 := Lib.hid (blk_below HB0.out hbd)
  have HX6 := Lib.hid (blk_below HB1.out hbd)
  have HB6 := Lib.hid (below_step HBW.out hbd)
  clear hbd HB0 HB1 HBW
  refine start_ (n := 12) (S := fun w' => w'.cell? ⟨W.heap.size, 0, none⟩ = some (.string ⟨#[112]⟩) ∧ w'.cell? ⟨W.heap.size, 1, none⟩ = some (.int .i64 4) ∧ w'.cell? ⟨W.heap.size, 2, none⟩ = some (.int .i64 5) ∧ w'.cell? ⟨W.heap.size, 3, none⟩ = some (.int .i64 40) ∧ w'.cell? ⟨W.heap.size, 4, none⟩ = some (.slice none 0 0) ∧ w'.cell? ⟨W.heap.size, 5, none⟩ = some (.slice none 0 0) ∧ w'.cell? ⟨W.heap.size, 6, none⟩ = some (.slice A 1 c) ∧ w'.cell? ⟨W.heap.size, 7, none⟩ = some (.slice none 0 0) ∧ w'.cell? ⟨W.heap.size, 8, none⟩ = some (.slice none 0 0) ∧ w'.cell? ⟨W.heap.size, 9, none⟩ = some (.slice none 0 0) ∧ w'.cell? ⟨W.heap.size, 10, none⟩ = some (.slice none 0 0) ∧ w'.cell? ⟨W.heap.size, 11, none⟩ = some (.int .i64 0) ∧ w'.cell? ⟨W.heap.size, 12, none⟩ = some (.int .i64 0) ∧ w'.cell? ⟨W.heap.size, 13, none⟩ = some (.int .i64 0) ∧ w'.cell? ⟨W.heap.size, 14, none⟩ = some (.int .i64 0) ∧ w'.cell? ⟨W.heap.size + 1, 0, none⟩ = some (.int .i64 5) ∧ w'.cell? ⟨W.heap.size + 1, 1, none⟩ = some (.int .i64 0)) (ds := []) #[false, false, false, false, false, false, false, false, false, false, false, false] (by kernel_rfl) rfl rfl ⟨(blk_cell HP6.out 0).trans rfl, (blk_cell HP6.out 1).trans rfl, (blk_cell HP6.out 2).trans rfl, (blk_cell HP6.out 3).trans rfl, (blk_cell HP6.out 4).trans rfl, (blk_cell HP6.out 5).trans rfl, (blk_cell HP6.out 6).trans rfl, (blk_cell HP6.out 7).trans rfl, (blk_cell HP6.out 8).trans rfl, (blk_cell HP6.out 9).trans rfl, (blk_cell HP6.out 10).trans rfl, (blk_cell HP6.out 11).trans rfl, (blk_cell HP6.out 12).trans rfl, (blk_cell HP6.out 13).trans rfl, (blk_cell HP6.out 14).trans rfl, (blk_cell HX6.out 0).trans rfl, (blk_cell HX6.out 1).trans rfl⟩ (fun hHeld => ?_)
  generalize W1.drew = W6 at *
  refine pure_ (i := 0) (N := some 5) (v := ?_) (a' := ?_) #[true, false, false, false, false, false, false, false, false, false, false, false] rfl rfl (by kernel_rfl) (fun _ _ _ h => h) (Or.inl ⟨by rfl, ?_⟩) ?_ ?_
  rotate_left
  · intro w'
    go_simp
    with_reducible rfl
  rotate_left
  · simp only [Act.put, List.setIfInBounds_toArray, List.set_cons_zero, List.set_cons_succ, i64_w, i32_w]
    rfl
  refine take_ (i := 1) (N := some 6) (v := ?_) (a' := ?_) #[true, true, false, false, false, false, false, false, false, false, false, false] rfl rfl (by kernel_rfl) (fun _ _ _ h => h) (Or.inl ⟨by rfl, ?_⟩) hHeld ?_ ?_
  rotate_left
  · rintro w' ⟨s0, s1, s2, s3, s4, s5, s6, s7, s8, s9, s10, s11, s12, s13, s14, s15, s16⟩
    go_simp
    with_reducible rfl
  rotate_left
  · simp only [Act.put, List.setIfInBounds_toArray, List.set_cons_zero, List.set_cons_succ, i64_w, i32_w]
    rfl
  refine pure_ (i := 2) (N := some 7) (v := ?_) (a' := ?_) #[true, true, true, false, false, false, false, false, false, false, false, false] rfl rfl (by kernel_rfl) (fun _ _ _ h => h) (Or.inl ⟨by rfl, ?_⟩) ?_ ?_
  rotate_left
  · intro w'
    go_simp
    with_reducible rfl
  rotate_left
  · simp only [Act.put, List.setIfInBounds_toArray, List.set_cons_zero, List.set_cons_succ, i64_w, i32_w]
    rfl
  refine pure_ (i := 3) (N := some 8) (v := ?_) (a' := ?_) #[true, true, true, true, false, false, false, false, false, false, false, false] rfl rfl (by kernel_rfl) (fun _ _ _ h => h) (Or.inl ⟨by rfl, ?_⟩) ?_ ?_
  rotate_left
  · intro w'
    go_simp
    with_reducible rfl
  rotate_left
  · simp only [Act.put, List.setIfInBounds_toArray, List.set_cons_zero, List.set_cons_succ, i64_w, i32_w]
    rfl
  refine pure_ (i := 4) (N := some 9) (v := ?_) (a' := ?_) #[true, true, true, true, true, false, false, false, false, false, false, false] rfl rfl (by kernel_rfl) (fun _ _ _ h => h) (Or.inl ⟨by rfl, ?_⟩) ?_ ?_
  rotate_left
  · intro w'
    go_simp
    with_reducible rfl
  rotate_left
  · simp only [Act.put, List.setIfInBounds_toArray, List.set_cons_zero, List.set_cons_succ, i64_w, i32_w]
    rfl
  refine take_ (i := 5) (N := some 10) (v := ?_) (a' := ?_) #[true, true, true, true, true, true, false, false, false, false, false, false] rfl rfl (by kernel_rfl) (fun _ _ _ h => h) (Or.inl ⟨by rfl, ?_⟩) hHeld ?_ ?_
  rotate_left
  · rintro w' ⟨s0, s1, s2, s3, s4, s5, s6, s7, s8, s9, s10, s11, s12, s13, s14, s15, s16⟩
    go_simp
    with_reducible rfl
  rotate_left
  · simp only [Act.put, List.setIfInBounds_toArray, List.set_cons_zero, List.set_cons_succ, i64_w, i32_w]
    rfl
  refine take_ (i := 6) (N := some 11) (v := ?_) (a' := ?_) #[true, true, true, true, true, true, true, false, false, false, false, false] rfl rfl (by kernel_rfl) (fun _ _ _ h => h) (Or.inl ⟨by rfl, ?_⟩) hHeld ?_ ?_
  rotate_left
  · rintro w' ⟨s0, s1, s2, s3, s4, s5, s6, s7, s8, s9, s10, s11, s12, s13, s14, s15, s16⟩
    go_simp
    with_reducible rfl
  rotate_left
  · simp only [Act.put, List.setIfInBounds_toArray, List.set_cons_zero, List.set_cons_succ, i64_w, i32_w]
    rfl
  refine pure_ (i := 7) (N := some 12) (v := ?_) (a' := ?_) #[true, true, true, true, true, true, true, true, false, false, false, false] rfl rfl (by kernel_rfl) (fun _ _ _ h => h) (Or.inl ⟨by rfl, ?_⟩) ?_ ?_
  rotate_left
  · intro w'
    go_simp
    with_reducible rfl
  rotate_left
  · simp only [Act.put, List.setIfInBounds_toArray, List.set_cons_zero, List.set_cons_succ, i64_w, i32_w]
    rfl
  refine take_ (i := 8) (N := some 13) (v := ?_) (a' := ?_) #[true, true, true, true, true, true, true, true, true, false, false, false] rfl rfl (by kernel_rfl) (fun _ _ _ h => h) (Or.inl ⟨by rfl, ?_⟩) hHeld ?_ ?_
  rotate_left
  · rintro w' ⟨s0, s1, s2, s3, s4, s5, s6, s7, s8, s9, s10, s11, s12, s13, s14, s15, s16⟩
    go_simp
    with_reducible rfl
  rotate_left
  · simp only [Act.put, List.setIfInBounds_toArray, List.set_cons_zero, List.set_cons_succ, i64_w, i32_w]
    rfl
  refine one_ (i := 9) (N := some 14) #[true, true, true, true, true, true, true, true, true, true, false, false] rfl rfl (by kernel_rfl) (by decide) (fun K hK => ?_)
  refine goes_ Tryz.func64 (by kernel_rfl) rfl #[.agg #[.string ⟨#[112]⟩, .int .i64 4, .int .i64 5, .int .i64 40, .slice none 0 0, .slice none 0 0, .slice A 1 c, .slice none 0 0, .slice none 0 0, .slice none 0 0, .slice none 0 0, .int .i64 0, .int .i64 0, .int .i64 0, .int .i64 0], .int .i64 5] (by rfl) rfl rfl (by simp only [List.map_toArray, List.map_cons, List.map_nil]; rfl) ?_
  refine (most_c W6 A c).mono ?_
  rintro e W7 ⟨rfl, hb7⟩
  refine ⟨_, rfl, ?_⟩
  have HP7 := Lib.hid (blk_below HP6.out hb7)
  have HX7 := Lib.hid (blk_below HX6.out hb7)
  have HB7 := Lib.hid (below_step HB6.out hb7)
  clear hb7 HP6 HX6 HB6
  refine hK.out _ _ ⟨(blk_cell HP7.out 0).trans rfl, (blk_cell HP7.out 1).trans rfl, (blk_cell HP7.out 2).trans rfl, (blk_cell HP7.out 3).trans rfl, (blk_cell HP7.out 4).trans rfl, (blk_cell HP7.out 5).trans rfl, (blk_cell HP7.out 6).trans rfl, (blk_cell HP7.out 7).trans rfl, (blk_cell HP7.out 8).trans rfl, (blk_cell HP7.out 9).trans rfl, (blk_cell HP7.out 10).trans rfl, (blk_cell HP7.out 11).trans rfl, (blk_cell HP7.out 12).trans rfl, (blk_cell HP7.out 13).trans rfl, (blk_cell HP7.out 14).trans rfl, (blk_cell HX7.out 0).trans rfl, (blk_cell HX7.out 1).trans rfl⟩ (fun hHeld => ?_)
  clear hK K
  refine norm_ (a' := ?_) ?_ ?_
  rotate_left
  · show Act.put _ (some 14) _ = _
    simp only [Act.put, List.setIfInBounds_toArray, List.set_cons_zero, List.set_cons_succ, i64_w, i32_w]
    rfl
  refine pure_ (i := 10) (N := some 15) (v := ?_) (a' := ?_) #[true, true, true, true, true, true, true, true, true, true, true, false] rfl rfl (by kernel_rfl) (fun _ _ _ h => h) (Or.inl ⟨by rfl, ?_⟩) ?_ ?_
  rotate_left
  · intro w'
    go_simp
    with_reducible rfl
  rotate_left
  · simp only [Act.put, List.setIfInBounds_toArray, List.set_cons_zero, List.set_cons_succ, i64_w, i32_w]
    rfl
  refine pure_ (i := 11) (N := some 16) (v := ?_) (a' := ?_) #[true, true, true, true, true, true, true, true, true, true, true, true] rfl rfl (by kernel_rfl) (fun _ _ _ h => h) (Or.inl ⟨by rfl, ?_⟩) ?_ ?_
  rotate_left
  · intro w'
    go_simp
    with_reducible rfl
  rotate_left
  · simp only [Act.put, List.setIfInBounds_toArray, List.set_cons_zero, List.set_cons_succ, i64_w, i32_w]
    rfl
  refine done_ (by kernel_rfl) ?_
  have p6 : W7.cell? ⟨W.heap.size, 6, none⟩ = some (.slice A 1 c) := (blk_cell HP7.out 6).trans rfl
  have x0 : W7.cell? ⟨W.heap.size + 1, 0, none⟩ = some (.int .i64 5) := (blk_cell HX7.out 0).trans rfl
  have x1 : W7.cell? ⟨W.heap.size + 1, 1, none⟩ = some (.int .i64 0) := (blk_cell HX7.out 1).trans rfl
  have x2 : W7.cell? ⟨W.heap.size + 1, 2, none⟩ = some (.int .i64 0) := (blk_cell HX7.out 2).trans rfl
  go_wp2_with fail
  go_ret
  exact ⟨rfl, HB7.out⟩
end Go.Proofs.YtklgecdklngekaaGreatDoor.WBack
