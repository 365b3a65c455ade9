/- wish.undo of the example's wish -/
import Derived.Test.YtklgecdklngekaaGreatDoorWBack
namespace Go.Proofs.YtklgecdklngekaaGreatDoor.WUndo
set_option linter.unusedVariables false
set_option linter.unusedSimpArgs false
open Go.RowKit Go.Proofs.YtklgecdklngekaaGreatDoorW.PrintWords Go.Proofs.YtklgecdklngekaaGreatDoorW.PrintLast Go.Proofs.YtklgecdklngekaaGreatDoor.Q Go.Proofs.YtklgecdklngekaaGreatDoor.WPers Go.Proofs.YtklgecdklngekaaGreatDoor.WExm Go.Proofs.YtklgecdklngekaaGreatDoor.WIx
set_option maxHeartbeats 4000000 in
set_option maxRecDepth 100000 in
theorem undo1 (W : World) (lo : Nat) (v : Value) (hp : Per W lo false v) : Calls Tryz.prog 38 #[prob v, .agg #[.int .i64 1, .int .i64 0, .int .i64 0, .int .u32 7, .int .u8 1, .int .i64 16, .int .i64 4, .int .i64 0, .slice none 0 0, .int .i64 0, .int .i64 0, .bool false, .int .i64 0]] W fun e w' => e = .returned (.tuple #[.agg #[.int .i64 2, .int .i64 0, .int .i64 0, .int .u32 7, .int .u8 1, .int .i64 16, .int .i64 4, .int .i64 0, .slice none 0 0, .int .i64 0, .int .i64 0, .bool false, .int .i64 0], .int .i64 0]) ∧ Below W.heap.size W w' := by
  obtain ⟨pb, c, a, rest, rfl, hc, hlo, hpb, hta⟩ := hp
  obtain rfl : a = .slice none 0 0 := hta
  have HPB := Lib.hid hpb
  clear hpb hlo
  unfold prob
  have hu_0 := Tryz.underlying50
  have hu_1 := Tryz.underlying31
  have hu_2 := Tryz.underlying39
  go_enter Tryz.func38, Tryz.ntmps38
  go_wp2_with fail
  have HB0 := Lib.hid (blk_alloc (blk_alloc (blk_new W (.cells #[.string ⟨#[112]⟩, .int .i64 4, .int .i64 5, .int .i64 40, .slice none 0 0, .slice none 0 0, .slice (some ⟨pb, 0, none⟩) 1 c, .slice none 0 0, .slice none 0 0, .slice none 0 0, .slice none 0 0, .int .i64 0, .int .i64 0, .int .i64 0, .int .i64 0] 50)) (.cells #[.int .i64 1, .int .i64 0, .int .i64 0, .int .u32 7, .int .u8 1, .int .i64 16, .int .i64 4, .int .i64 0, .slice none 0 0, .int .i64 0, .int .i64 0, .bool false, .int .i64 0] 31)) (.cells #[.int .i64 0, .int .i64 0, .int .i64 0, .int .u32 0, .int .u8 0, .int .i64 0, .int .i64 0, .int .i64 0, .slice none 0 0, .int .i64 0, .int .i64 0, .bool false, .int .i64 0] 31))
  have hn1 := blk_new (W.alloc (.cells #[.string ⟨#[112]⟩, .int .i64 4, .int .i64 5, .int .i64 40, .slice none 0 0, .slice none 0 0, .slice (some ⟨pb, 0, none⟩) 1 c, .slice none 0 0, .slice none 0 0, .slice none 0 0, .slice none 0 0, .int .i64 0, .int .i64 0, .int .i64 0, .int .i64 0] 50)) (.cells #[.int .i64 1, .int .i64 0, .int .i64 0, .int .u32 7, .int .u8 1, .int .i64 16, .int .i64 4, .int .i64 0, .slice none 0 0, .int .i64 0, .int .i64 0, .bool false, .int .i64 0] 31)
  rw [World.size_alloc] at hn1
  have HB1 := Lib.hid (blk_alloc (hn1) (.cells #[.int .i64 0, .int .i64 0, .int .i64 0, .int .u32 0, .int .u8 0, .int .i64 0, .int .i64 0, .int .i64 0, .slice none 0 0, .int .i64 0, .int .i64 0, .bool false, .int .i64 0] 31))
  clear hn1
  have hn2 := blk_new ((W.alloc (.cells #[.string ⟨#[112]⟩, .int .i64 4, .int .i64 5, .int .i64 40, .slice none 0 0, .slice none 0 0, .slice (some ⟨pb, 0, none⟩) 1 c, .slice none 0 0, .slice none 0 0, .slice none 0 0, .slice none 0 0, .int .i64 0, .int .i64 0, .int .i64 0, .int .i64 0] 50)).alloc (.cells #[.int .i64 1, .int .i64 0, .int .i64 0, .int .u32 7, .int .u8 1, .int .i64 16, .int .i64 4, .int .i64 0, .slice none 0 0, .int .i64 0, .int .i64 0, .bool false, .int .i64 0] 31)) (.cells #[.int .i64 0, .int .i64 0, .int .i64 0, .int .u32 0, .int .u8 0, .int .i64 0, .int .i64 0, .int .i64 0, .slice none 0 0, .int .i64 0, .int .i64 0, .bool false, .int .i64 0] 31)
  rw [World.size_alloc, World.size_alloc] at hn2
  have HB2 := Lib.hid (hn2)
  clear hn2
  have HBW := Lib.hid (below_alloc (below_alloc (below_alloc (Below.refl W.heap.size W) (.cells #[.string ⟨#[112]⟩, .int .i64 4, .int .i64 5, .int .i64 40, .slice none 0 0, .slice none 0 0, .slice (some ⟨pb, 0, none⟩) 1 c, .slice none 0 0, .slice none 0 0, .slice none 0 0, .slice none 0 0, .int .i64 0, .int .i64 0, .int .i64 0, .int .i64 0] 50)) (.cells #[.int .i64 1, .int .i64 0, .int .i64 0, .int .u32 7, .int .u8 1, .int .i64 16, .int .i64 4, .int .i64 0, .slice none 0 0, .int .i64 0, .int .i64 0, .bool false, .int .i64 0] 31)) (.cells #[.int .i64 0, .int .i64 0, .int .i64 0, .int .u32 0, .int .u8 0, .int .i64 0, .int .i64 0, .int .i64 0, .slice none 0 0, .int .i64 0, .int .i64 0, .bool false, .int .i64 0] 31))
  generalize ((W.alloc (.cells #[.string ⟨#[112]⟩, .int .i64 4, .int .i64 5, .int .i64 40, .slice none 0 0, .slice none 0 0, .slice (some ⟨pb, 0, none⟩) 1 c, .slice none 0 0, .slice none 0 0, .slice none 0 0, .slice none 0 0, .int .i64 0, .int .i64 0, .int .i64 0, .int .i64 0] 50)).alloc (.cells #[.int .i64 1, .int .i64 0, .int .i64 0, .int .u32 7, .int .u8 1, .int .i64 16, .int .i64 4, .int .i64 0, .slice none 0 0, .int .i64 0, .int .i64 0, .bool false, .int .i64 0] 31)).alloc (.cells #[.int .i64 0, .int .i64 0, .int .i64 0, .int .u32 0, .int .u8 0, .int .i64 0, .int .i64 0, .int .i64 0, .slice none 0 0, .int .i64 0, .int .i64 0, .bool false, .int .i64 0] 31) = W1 at *
  have hbd : Below W1.heap.size W1 W1.drew := (Below.refl _ _).drew
  have HP6 := Lib.hid (blk_below HB0.out hbd)
  have HX6 := Lib.hid (blk_below HB1.out hbd)
  have HR6 := Lib.hid (blk_below HB2.out hbd)
  have HN6 := Lib.hid (blk_below (blk_below HPB.out HBW.out) hbd)
  have HB6 := Lib.hid (below_step HBW.out hbd)
  clear hbd HB0 HB1 HB2 HBW HPB
  refine start_ (n := 13) (S := fun w' => w'.cell? ⟨W.heap.size, 6, none⟩ = some (.slice (some ⟨pb, 0, none⟩) 1 c) ∧ w'.cell? ⟨pb, 1, none⟩ = some (.slice none 0 0) ∧ w'.cell? ⟨W.heap.size + 1, 0, none⟩ = some (.int .i64 1) ∧ w'.cell? ⟨W.heap.size + 1, 1, none⟩ = some (.int .i64 0) ∧ w'.cell? ⟨W.heap.size + 1, 2, none⟩ = some (.int .i64 0) ∧ w'.cell? ⟨W.heap.size + 1, 3, none⟩ = some (.int .u32 7) ∧ w'.cell? ⟨W.heap.size + 1, 4, none⟩ = some (.int .u8 1) ∧ w'.cell? ⟨W.heap.size + 1, 5, none⟩ = some (.int .i64 16) ∧ w'.cell? ⟨W.heap.size + 1, 6, none⟩ = some (.int .i64 4) ∧ w'.cell? ⟨W.heap.size + 1, 7, none⟩ = some (.int .i64 0) ∧ w'.cell? ⟨W.heap.size + 1, 8, none⟩ = some (.slice none 0 0) ∧ w'.cell? ⟨W.heap.size + 1, 9, none⟩ = some (.int .i64 0) ∧ w'.cell? ⟨W.heap.size + 1, 10, none⟩ = some (.int .i64 0) ∧ w'.cell? ⟨W.heap.size + 1, 11, none⟩ = some (.bool false) ∧ w'.cell? ⟨W.heap.size + 1, 12, none⟩ = some (.int .i64 0)) (ds := [11]) #[false, false, false, false, false, false, false, false, false, false, false, false, false] (by kernel_rfl) rfl rfl ⟨(blk_cell HP6.out 6).trans rfl, (blk_cell HN6.out 1).trans rfl, (blk_cell HX6.out 0).trans rfl, (blk_cell HX6.out 1).trans rfl, (blk_cell HX6.out 2).trans rfl, (blk_cell HX6.out 3).trans rfl, (blk_cell HX6.out 4).trans rfl, (blk_cell HX6.out 5).trans rfl, (blk_cell HX6.out 6).trans rfl, (blk_cell HX6.out 7).trans rfl, (blk_cell HX6.out 8).trans rfl, (blk_cell HX6.out 9).trans rfl, (blk_cell HX6.out 10).trans rfl, (blk_cell HX6.out 11).trans rfl, (blk_cell HX6.out 12).trans rfl⟩ (fun hHeld => ?_)
  generalize W1.drew = W6 at *
  refine pure_ (i := 0) (N := some 12) (v := ?_) (a' := ?_) #[true, false, false, false, false, false, false, false, false, false, false, false, false] rfl rfl (by kernel_rfl) (fun _ _ _ h => h) (Or.inl ⟨by rfl, ?_⟩) ?_ ?_
  rotate_left
  · intro w'
    go_simp
    with_reducible rfl
  rotate_left
  · simp only [Act.put, List.setIfInBounds_toArray, List.set_cons_zero, List.set_cons_succ, i64_w, i32_w]
    rfl
  refine take_ (i := 1) (N := some 13) (v := ?_) (a' := ?_) #[true, true, false, false, false, false, false, false, false, false, false, false, false] rfl rfl (by kernel_rfl) (fun _ _ _ h => h) (Or.inl ⟨by rfl, ?_⟩) hHeld ?_ ?_
  rotate_left
  · rintro w' ⟨s0, s1, s2, s3, s4, s5, s6, s7, s8, s9, s10, s11, s12, s13, s14⟩
    go_simp
    with_reducible rfl
  rotate_left
  · simp only [Act.put, List.setIfInBounds_toArray, List.set_cons_zero, List.set_cons_succ, i64_w, i32_w]
    rfl
  refine pure_ (i := 2) (N := some 14) (v := ?_) (a' := ?_) #[true, true, true, false, false, false, false, false, false, false, false, false, false] rfl rfl (by kernel_rfl) (fun _ _ _ h => h) (Or.inl ⟨by rfl, ?_⟩) ?_ ?_
  rotate_left
  · intro w'
    go_simp
    with_reducible rfl
  rotate_left
  · simp only [Act.put, List.setIfInBounds_toArray, List.set_cons_zero, List.set_cons_succ, i64_w, i32_w]
    rfl
  refine take_ (i := 3) (N := some 15) (v := ?_) (a' := ?_) #[true, true, true, true, false, false, false, false, false, false, false, false, false] rfl rfl (by kernel_rfl) (fun _ _ _ h => h) (Or.inl ⟨by rfl, ?_⟩) hHeld ?_ ?_
  rotate_left
  · rintro w' ⟨s0, s1, s2, s3, s4, s5, s6, s7, s8, s9, s10, s11, s12, s13, s14⟩
    go_simp
    with_reducible rfl
  rotate_left
  · simp only [Act.put, List.setIfInBounds_toArray, List.set_cons_zero, List.set_cons_succ, i64_w, i32_w]
    rfl
  refine pure_ (i := 4) (N := some 16) (v := ?_) (a' := ?_) #[true, true, true, true, true, false, false, false, false, false, false, false, false] rfl rfl (by kernel_rfl) (fun _ _ _ h => h) (Or.inl ⟨by rfl, ?_⟩) ?_ ?_
  rotate_left
  · intro w'
    go_simp
    with_reducible rfl
  rotate_left
  · simp only [Act.put, List.setIfInBounds_toArray, List.set_cons_zero, List.set_cons_succ, i64_w, i32_w]
    rfl
  refine pure_ (i := 5) (N := some 17) (v := ?_) (a' := ?_) #[true, true, true, true, true, true, false, false, false, false, false, false, false] rfl rfl (by kernel_rfl) (fun _ _ _ h => h) (Or.inl ⟨by rfl, ?_⟩) ?_ ?_
  rotate_left
  · intro w'
    go_simp
    with_reducible rfl
  rotate_left
  · simp only [Act.put, List.setIfInBounds_toArray, List.set_cons_zero, List.set_cons_succ, i64_w, i32_w]
    rfl
  refine take_ (i := 6) (N := some 18) (v := ?_) (a' := ?_) #[true, true, true, true, true, true, true, false, false, false, false, false, false] rfl rfl (by kernel_rfl) (fun _ _ _ h => h) (Or.inl ⟨by rfl, ?_⟩) hHeld ?_ ?_
  rotate_left
  · rintro w' ⟨s0, s1, s2, s3, s4, s5, s6, s7, s8, s9, s10, s11, s12, s13, s14⟩
    go_simp
    with_reducible rfl
  rotate_left
  · simp only [Act.put, List.setIfInBounds_toArray, List.set_cons_zero, List.set_cons_succ, i64_w, i32_w]
    rfl
  refine take_ (i := 7) (N := some 19) (v := ?_) (a' := ?_) #[true, true, true, true, true, true, true, true, false, false, false, false, false] rfl rfl (by kernel_rfl) (fun _ _ _ h => h) (Or.inl ⟨by rfl, ?_⟩) hHeld ?_ ?_
  rotate_left
  · rintro w' ⟨s0, s1, s2, s3, s4, s5, s6, s7, s8, s9, s10, s11, s12, s13, s14⟩
    go_simp
    with_reducible rfl
  rotate_left
  · simp only [Act.put, List.setIfInBounds_toArray, List.set_cons_zero, List.set_cons_succ, i64_w, i32_w]
    rfl
  refine one_ (i := 8) (N := some 20) #[true, true, true, true, true, true, true, true, true, false, false, false, false] rfl rfl (by kernel_rfl) (by decide) (fun K hK => ?_)
  refine goes_ Tryz.func80 (by kernel_rfl) rfl #[.slice none 0 0, .agg #[.int .i64 1, .int .i64 0, .int .i64 0, .int .u32 7, .int .u8 1, .int .i64 16, .int .i64 4, .int .i64 0, .slice none 0 0, .int .i64 0, .int .i64 0, .bool false, .int .i64 0], .int .i64 2, .bool true] (by rfl) rfl rfl (by simp only [List.map_toArray, List.map_cons, List.map_nil]; rfl) ?_
  refine (WBack.back0 W6).mono ?_
  rintro e W7 ⟨rfl, hb7⟩
  refine ⟨_, rfl, ?_⟩
  have HP7 := Lib.hid (blk_below HP6.out hb7)
  have HX7 := Lib.hid (blk_below HX6.out hb7)
  have HR7 := Lib.hid (blk_below HR6.out hb7)
  have HN7 := Lib.hid (blk_below HN6.out hb7)
  have HB7 := Lib.hid (below_step HB6.out hb7)
  clear hb7 HP6 HX6 HR6 HN6 HB6
  refine hK.out _ _ ⟨(blk_cell HP7.out 6).trans rfl, (blk_cell HN7.out 1).trans rfl, (blk_cell HX7.out 0).trans rfl, (blk_cell HX7.out 1).trans rfl, (blk_cell HX7.out 2).trans rfl, (blk_cell HX7.out 3).trans rfl, (blk_cell HX7.out 4).trans rfl, (blk_cell HX7.out 5).trans rfl, (blk_cell HX7.out 6).trans rfl, (blk_cell HX7.out 7).trans rfl, (blk_cell HX7.out 8).trans rfl, (blk_cell HX7.out 9).trans rfl, (blk_cell HX7.out 10).trans rfl, (blk_cell HX7.out 11).trans rfl, (blk_cell HX7.out 12).trans rfl⟩ (fun hHeld => ?_)
  clear hK K
  refine norm_ (a' := ?_) ?_ ?_
  rotate_left
  · show Act.put _ (some 20) _ = _
    simp only [Act.put, List.setIfInBounds_toArray, List.set_cons_zero, List.set_cons_succ, i64_w, i32_w]
    rfl
  refine pure_ (i := 9) (N := some 21) (v := ?_) (a' := ?_) #[true, true, true, true, true, true, true, true, true, true, false, false, false] rfl rfl (by kernel_rfl) (fun _ _ _ h => h) (Or.inl ⟨by rfl, ?_⟩) ?_ ?_
  rotate_left
  · intro w'
    go_simp
    with_reducible rfl
  rotate_left
  · simp only [Act.put, List.setIfInBounds_toArray, List.set_cons_zero, List.set_cons_succ, i64_w, i32_w]
    rfl
  refine pure_ (i := 10) (N := some 22) (v := ?_) (a' := ?_) #[true, true, true, true, true, true, true, true, true, true, true, false, false] rfl rfl (by kernel_rfl) (fun _ _ _ h => h) (Or.inl ⟨by rfl, ?_⟩) ?_ ?_
  rotate_left
  · intro w'
    go_simp
    with_reducible rfl
  rotate_left
  · simp only [Act.put, List.setIfInBounds_toArray, List.set_cons_zero, List.set_cons_succ, i64_w, i32_w]
    rfl
  refine last_ (i := 11) (N := none) #[true, true, true, true, true, true, true, true, true, true, true, true, false] rfl rfl (by kernel_rfl) (by decide) (fun K hK => ?_)
  have z0 : W7.cell? ⟨W.heap.size + 1 + 1, 0, none⟩ = some (.int .i64 0) := (blk_cell HR7.out 0).trans rfl
  have fz0 : W7.frozen? ⟨W.heap.size + 1 + 1, 0, none⟩ = false := blk_frozen HR7.out 0
  have z1 : W7.cell? ⟨W.heap.size + 1 + 1, 1, none⟩ = some (.int .i64 0) := (blk_cell HR7.out 1).trans rfl
  have fz1 : W7.frozen? ⟨W.heap.size + 1 + 1, 1, none⟩ = false := blk_frozen HR7.out 1
  have z2 : W7.cell? ⟨W.heap.size + 1 + 1, 2, none⟩ = some (.int .i64 0) := (blk_cell HR7.out 2).trans rfl
  have fz2 : W7.frozen? ⟨W.heap.size + 1 + 1, 2, none⟩ = false := blk_frozen HR7.out 2
  have z3 : W7.cell? ⟨W.heap.size + 1 + 1, 3, none⟩ = some (.int .u32 0) := (blk_cell HR7.out 3).trans rfl
  have fz3 : W7.frozen? ⟨W.heap.size + 1 + 1, 3, none⟩ = false := blk_frozen HR7.out 3
  have z4 : W7.cell? ⟨W.heap.size + 1 + 1, 4, none⟩ = some (.int .u8 0) := (blk_cell HR7.out 4).trans rfl
  have fz4 : W7.frozen? ⟨W.heap.size + 1 + 1, 4, none⟩ = false := blk_frozen HR7.out 4
  have z5 : W7.cell? ⟨W.heap.size + 1 + 1, 5, none⟩ = some (.int .i64 0) := (blk_cell HR7.out 5).trans rfl
  have fz5 : W7.frozen? ⟨W.heap.size + 1 + 1, 5, none⟩ = false := blk_frozen HR7.out 5
  have z6 : W7.cell? ⟨W.heap.size + 1 + 1, 6, none⟩ = some (.int .i64 0) := (blk_cell HR7.out 6).trans rfl
  have fz6 : W7.frozen? ⟨W.heap.size + 1 + 1, 6, none⟩ = false := blk_frozen HR7.out 6
  have z7 : W7.cell? ⟨W.heap.size + 1 + 1, 7, none⟩ = some (.int .i64 0) := (blk_cell HR7.out 7).trans rfl
  have fz7 : W7.frozen? ⟨W.heap.size + 1 + 1, 7, none⟩ = false := blk_frozen HR7.out 7
  have z8 : W7.cell? ⟨W.heap.size + 1 + 1, 8, none⟩ = some (.slice none 0 0) := (blk_cell HR7.out 8).trans rfl
  have fz8 : W7.frozen? ⟨W.heap.size + 1 + 1, 8, none⟩ = false := blk_frozen HR7.out 8
  have z9 : W7.cell? ⟨W.heap.size + 1 + 1, 9, none⟩ = some (.int .i64 0) := (blk_cell HR7.out 9).trans rfl
  have fz9 : W7.frozen? ⟨W.heap.size + 1 + 1, 9, none⟩ = false := blk_frozen HR7.out 9
  have z10 : W7.cell? ⟨W.heap.size + 1 + 1, 10, none⟩ = some (.int .i64 0) := (blk_cell HR7.out 10).trans rfl
  have fz10 : W7.frozen? ⟨W.heap.size + 1 + 1, 10, none⟩ = false := blk_frozen HR7.out 10
  have z11 : W7.cell? ⟨W.heap.size + 1 + 1, 11, none⟩ = some (.bool false) := (blk_cell HR7.out 11).trans rfl
  have fz11 : W7.frozen? ⟨W.heap.size + 1 + 1, 11, none⟩ = false := blk_frozen HR7.out 11
  have z12 : W7.cell? ⟨W.heap.size + 1 + 1, 12, none⟩ = some (.int .i64 0) := (blk_cell HR7.out 12).trans rfl
  have fz12 : W7.frozen? ⟨W.heap.size + 1 + 1, 12, none⟩ = false := blk_frozen HR7.out 12
  refine skip_ (w1 := ?_) (by rfl) rfl ?_ ?_
  rotate_left
  · go_simp
    rfl
  refine hK.out _ _ ?_
  clear hK K
  refine pure_ (i := 12) (N := some 5) (v := ?_) (a' := ?_) #[true, true, true, true, true, true, true, true, true, true, true, true, true] rfl rfl (by kernel_rfl) (fun _ _ _ h => h) (Or.inl ⟨by rfl, ?_⟩) ?_ ?_
  rotate_left
  · intro w'
    go_simp
    with_reducible rfl
  rotate_left
  · simp only [Act.put, List.setIfInBounds_toArray, List.set_cons_zero, List.set_cons_succ, i64_w, i32_w]
    rfl
  refine done_ (by kernel_rfl) ?_
  go_wp2_with fail
  refine bodyPost_ret (results_ct rfl _ _ (W.heap.size + 1 + 1) 31 #[.int .i64 2, .int .i64 0, .int .i64 0, .int .u32 7, .int .u8 1, .int .i64 16, .int .i64 4, .int .i64 0, .slice none 0 0, .int .i64 0, .int .i64 0, .bool false, .int .i64 0] (0, 0) _ rfl (blk_set (blk_set (blk_set (blk_set (blk_set (blk_set (blk_set (blk_set (blk_set (blk_set (blk_set (blk_set (blk_set HR7.out 0 _) 1 _) 2 _) 3 _) 4 _) 5 _) 6 _) 7 _) 8 _) 9 _) 10 _) 11 _) 12 _) Tryz.underlying31 rfl (by kernel_rfl)) rfl ?_
  exact ⟨rfl, (((((((((((((HB7.out.setCell (p := ⟨W.heap.size + 1 + 1, 0, none⟩) (by show W.heap.size ≤ W.heap.size + 1 + 1; omega) _).setCell (p := ⟨W.heap.size + 1 + 1, 1, none⟩) (by show W.heap.size ≤ W.heap.size + 1 + 1; omega) _).setCell (p := ⟨W.heap.size + 1 + 1, 2, none⟩) (by show W.heap.size ≤ W.heap.size + 1 + 1; omega) _).setCell (p := ⟨W.heap.size + 1 + 1, 3, none⟩) (by show W.heap.size ≤ W.heap.size + 1 + 1; omega) _).setCell (p := ⟨W.heap.size + 1 + 1, 4, none⟩) (by show W.heap.size ≤ W.heap.size + 1 + 1; omega) _).setCell (p := ⟨W.heap.size + 1 + 1, 5, none⟩) (by show W.heap.size ≤ W.heap.size + 1 + 1; omega) _).setCell (p := ⟨W.heap.size + 1 + 1, 6, none⟩) (by show W.heap.size ≤ W.heap.size + 1 + 1; omega) _).setCell (p := ⟨W.heap.size + 1 + 1, 7, none⟩) (by show W.heap.size ≤ W.heap.size + 1 + 1; omega) _).setCell (p := ⟨W.heap.size + 1 + 1, 8, none⟩) (by show W.heap.size ≤ W.heap.size + 1 + 1; omega) _).setCell (p := ⟨W.heap.size + 1 + 1, 9, none⟩) (by show W.heap.size ≤ W.heap.size + 1 + 1; omega) _).setCell (p := ⟨W.heap.size + 1 + 1, 10, none⟩) (by show W.heap.size ≤ W.heap.size + 1 + 1; omega) _).setCell (p := ⟨W.heap.size + 1 + 1, 11, none⟩) (by show W.heap.size ≤ W.heap.size + 1 + 1; omega) _).setCell (p := ⟨W.heap.size + 1 + 1, 12, none⟩) (by show W.heap.size ≤ W.heap.size + 1 + 1; omega) _)⟩
end Go.Proofs.YtklgecdklngekaaGreatDoor.WUndo
