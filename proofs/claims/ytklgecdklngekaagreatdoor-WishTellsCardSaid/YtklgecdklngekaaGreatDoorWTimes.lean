/- wish.times and change at the example -/
import Derived.Test.YtklgecdklngekaaGreatDoorWLeave
import Derived.Test.YtklgecdklngekaaGreatDoorWReturn
import Derived.Test.YtklgecdklngekaaGreatDoorWRd
namespace Go.Proofs.YtklgecdklngekaaGreatDoor.WTimes
set_option linter.unusedVariables false
set_option linter.unusedSimpArgs false
open Go.RowKit Go.Proofs.YtklgecdklngekaaGreatDoorW.PrintWords Go.Proofs.YtklgecdklngekaaGreatDoorW.PrintLast Go.Proofs.YtklgecdklngekaaGreatDoor.Q Go.Proofs.YtklgecdklngekaaGreatDoor.WPers Go.Proofs.YtklgecdklngekaaGreatDoor.WExm Go.Proofs.YtklgecdklngekaaGreatDoor.WIx Go.Proofs.YtklgecdklngekaaGreatDoor.WRd
structure At (W : World) (qb nb c : Nat) (a : Value) (rest : List Value) : Prop where
  q : W.heap[qb]? = some (.cells #[.string ⟨#[112]⟩, .int .i64 4, .int .i64 5, .int .i64 40, .slice none 0 0, .slice none 0 0, .slice (some ⟨nb, 0, none⟩) 1 c, .slice none 0 0, .slice none 0 0, .slice none 0 0, .slice none 0 0, .int .i64 0, .int .i64 0, .int .i64 0, .int .i64 0] 50 (0, 0))
  n : W.heap[nb]? = some (.cells (([.string ⟨#[120]⟩, a] : List Value) ++ rest).toArray 39 (0, 0))
theorem At.below {W W1 : World} {qb nb c : Nat} {a : Value} {rest : List Value} (h : At W qb nb c a rest) (hb : Below W.heap.size W W1) : At W1 qb nb c a rest := ⟨blk_below h.q hb, blk_below h.n hb⟩
theorem At.put {W : World} {qb nb c : Nat} {a : Value} {rest : List Value} (h : At W qb nb c a rest) (a' : Value) : At ((W.setCell ⟨nb, 0, none⟩ (.string ⟨#[120]⟩)).setCell ⟨nb, 1, none⟩ a') qb nb c a' rest :=
  have hne : qb ≠ nb := blk_ne h.q h.n (by decide)
  ⟨blk_far (p := ⟨nb, 1, none⟩) (blk_far (p := ⟨nb, 0, none⟩) h.q hne _) hne _, blk_put (blk_put h.n 0 _ rfl) 1 _ (by simp)⟩
set_option maxHeartbeats 8000000 in
set_option maxRecDepth 100000 in
theorem times1 (W : World) (lo qb nb c : Nat) (hc : 1 ≤ c) (a : Value) (rest : List Value) (ha : At W qb nb c a rest) (hta : Tms W lo false a) :
    Calls Tryz.prog 77 #[.pointer (some ⟨qb, 0, none⟩), .agg #[.int .i64 1, .int .i64 0, .int .i64 0, .int .u32 7, .int .u8 1, .int .i64 16, .int .i64 4, .int .i64 0, .slice none 0 0, .int .i64 0, .int .i64 0, .bool false, .int .i64 0]] W fun e w' => ∃ a', e = .returned (.int .i64 0) ∧ At w' qb nb c a' rest ∧ Tms w' W.heap.size true a' ∧ Fr W w' nb := by
  obtain rfl : a = .slice none 0 0 := hta
  have HTA : Hid (Tms W lo false (.slice none 0 0)) := Lib.hid rfl
  have HA := Lib.hid ha
  have hnbl := blk_lt ha.n
  clear ha
  have hu_0 := Tryz.underlying31
  have hu_1 := Tryz.underlying25
  have hu_2 := Tryz.underlying39
  go_enter Tryz.func77, Tryz.ntmps77
  go_wp2_with fail
  have HB0 := Lib.hid (blk_new W (.cells #[.int .i64 1, .int .i64 0, .int .i64 0, .int .u32 7, .int .u8 1, .int .i64 16, .int .i64 4, .int .i64 0, .slice none 0 0, .int .i64 0, .int .i64 0, .bool false, .int .i64 0] 31))
  have HBW := Lib.hid (below_alloc (Below.refl W.heap.size W) (.cells #[.int .i64 1, .int .i64 0, .int .i64 0, .int .u32 7, .int .u8 1, .int .i64 16, .int .i64 4, .int .i64 0, .slice none 0 0, .int .i64 0, .int .i64 0, .bool false, .int .i64 0] 31))
  generalize W.alloc (.cells #[.int .i64 1, .int .i64 0, .int .i64 0, .int .u32 7, .int .u8 1, .int .i64 16, .int .i64 4, .int .i64 0, .slice none 0 0, .int .i64 0, .int .i64 0, .bool false, .int .i64 0] 31) = W1 at *
  have hbd : Below W1.heap.size W1 W1.drew := (Below.refl _ _).drew
  have HX6 := Lib.hid (blk_below HB0.out hbd)
  have HA6 := Lib.hid ((HA.out.below HBW.out).below hbd)
  have HB6 := Lib.hid (below_step HBW.out hbd)
  have HT6 := Lib.hid ((HTA.out.below HBW.out).below hbd)
  clear hbd HB0 HBW HA HTA
  refine start_ (n := 21) (S := fun w' => w'.cell? ⟨qb, 6, none⟩ = some (.slice (some ⟨nb, 0, none⟩) 1 c) ∧ w'.cell? ⟨nb, 0, none⟩ = some (.string ⟨#[120]⟩) ∧ w'.cell? ⟨nb, 1, none⟩ = some (.slice none 0 0) ∧ w'.cell? ⟨W.heap.size, 3, none⟩ = some (.int .u32 7) ∧ w'.cell? ⟨W.heap.size, 4, none⟩ = some (.int .u8 1) ∧ w'.cell? ⟨W.heap.size, 5, none⟩ = some (.int .i64 16) ∧ w'.cell? ⟨W.heap.size, 6, none⟩ = some (.int .i64 4)) (ds := [19]) #[false, false, false, false, false, false, false, false, false, false, false, false, false, false, false, false, false, false, false, false, false] (by kernel_rfl) rfl rfl ⟨(blk_cell HA6.out.q 6).trans rfl, (blk_cell HA6.out.n 0).trans rfl, (blk_cell HA6.out.n 1).trans rfl, (blk_cell HX6.out 3).trans rfl, (blk_cell HX6.out 4).trans rfl, (blk_cell HX6.out 5).trans rfl, (blk_cell HX6.out 6).trans rfl⟩ (fun hHeld => ?_)
  generalize W1.drew = W6 at *
  refine pure_ (i := 0) (N := some 14) (v := ?_) (a' := ?_) #[true, false, false, false, false, false, false, false, false, false, false, false, false, false, false, false, false, false, false, false, false] rfl rfl (by kernel_rfl) (fun _ _ _ h => h) (Or.inl ⟨by rfl, ?_⟩) ?_ ?_
  rotate_left
  · intro w'
    go_simp
    with_reducible rfl
  rotate_left
  · simp only [Act.put, List.setIfInBounds_toArray, List.set_cons_zero, List.set_cons_succ, i64_w, i32_w]
    rfl
  refine pure_ (i := 1) (N := some 15) (v := ?_) (a' := ?_) #[true, true, false, false, false, false, false, false, false, false, false, false, false, false, false, false, false, false, false, false, false] rfl rfl (by kernel_rfl) (fun _ _ _ h => h) (Or.inl ⟨by rfl, ?_⟩) ?_ ?_
  rotate_left
  · intro w'
    go_simp
    with_reducible rfl
  rotate_left
  · simp only [Act.put, List.setIfInBounds_toArray, List.set_cons_zero, List.set_cons_succ, i64_w, i32_w]
    rfl
  refine pure_ (i := 2) (N := some 16) (v := ?_) (a' := ?_) #[true, true, true, false, false, false, false, false, false, false, false, false, false, false, false, false, false, false, false, false, false] rfl rfl (by kernel_rfl) (fun _ _ _ h => h) (Or.inl ⟨by rfl, ?_⟩) ?_ ?_
  rotate_left
  · intro w'
    go_simp
    with_reducible rfl
  rotate_left
  · simp only [Act.put, List.setIfInBounds_toArray, List.set_cons_zero, List.set_cons_succ, i64_w, i32_w]
    rfl
  refine take_ (i := 3) (N := some 17) (v := ?_) (a' := ?_) #[true, true, true, true, false, false, false, false, false, false, false, false, false, false, false, false, false, false, false, false, false] rfl rfl (by kernel_rfl) (fun _ _ _ h => h) (Or.inl ⟨by rfl, ?_⟩) hHeld ?_ ?_
  rotate_left
  · rintro w' ⟨s0, s1, s2, s3, s4, s5, s6⟩
    go_simp
    with_reducible rfl
  rotate_left
  · simp only [Act.put, List.setIfInBounds_toArray, List.set_cons_zero, List.set_cons_succ, i64_w, i32_w]
    rfl
  refine pure_ (i := 4) (N := some 18) (v := ?_) (a' := ?_) #[true, true, true, true, true, false, false, false, false, false, false, false, false, false, false, false, false, false, false, false, false] rfl rfl (by kernel_rfl) (fun _ _ _ h => h) (Or.inl ⟨by rfl, ?_⟩) ?_ ?_
  rotate_left
  · intro w'
    go_simp
    with_reducible rfl
  rotate_left
  · simp only [Act.put, List.setIfInBounds_toArray, List.set_cons_zero, List.set_cons_succ, i64_w, i32_w]
    rfl
  refine pure_ (i := 5) (N := some 19) (v := ?_) (a' := ?_) #[true, true, true, true, true, true, false, false, false, false, false, false, false, false, false, false, false, false, false, false, false] rfl rfl (by kernel_rfl) (fun _ _ _ h => h) (Or.inl ⟨by rfl, ?_⟩) ?_ ?_
  rotate_left
  · intro w'
    go_simp
    with_reducible rfl
  rotate_left
  · simp only [Act.put, List.setIfInBounds_toArray, List.set_cons_zero, List.set_cons_succ, i64_w, i32_w]
    rfl
  refine pure_ (i := 6) (N := some 20) (v := ?_) (a' := ?_) #[true, true, true, true, true, true, true, false, false, false, false, false, false, false, false, false, false, false, false, false, false] rfl rfl (by kernel_rfl) (fun _ _ _ h => h) (Or.inl ⟨by rfl, ?_⟩) ?_ ?_
  rotate_left
  · intro w'
    go_simp
    with_reducible rfl
  rotate_left
  · simp only [Act.put, List.setIfInBounds_toArray, List.set_cons_zero, List.set_cons_succ, i64_w, i32_w]
    rfl
  refine pure_ (i := 7) (N := some 21) (v := ?_) (a' := ?_) #[true, true, true, true, true, true, true, true, false, false, false, false, false, false, false, false, false, false, false, false, false] rfl rfl (by kernel_rfl) (fun _ _ _ h => h) (Or.inl ⟨by rfl, ?_⟩) ?_ ?_
  rotate_left
  · intro w'
    go_simp
    with_reducible rfl
  rotate_left
  · simp only [Act.put, List.setIfInBounds_toArray, List.set_cons_zero, List.set_cons_succ, i64_w, i32_w]
    rfl
  refine take_ (i := 8) (N := some 22) (v := ?_) (a' := ?_) #[true, true, true, true, true, true, true, true, true, false, false, false, false, false, false, false, false, false, false, false, false] rfl rfl (by kernel_rfl) (fun _ _ _ h => h) (Or.inl ⟨by rfl, ?_⟩) hHeld ?_ ?_
  rotate_left
  · rintro w' ⟨s0, s1, s2, s3, s4, s5, s6⟩
    go_simp
    with_reducible rfl
  rotate_left
  · simp only [Act.put, List.setIfInBounds_toArray, List.set_cons_zero, List.set_cons_succ, i64_w, i32_w]
    rfl
  refine pure_ (i := 9) (N := some 23) (v := ?_) (a' := ?_) #[true, true, true, true, true, true, true, true, true, true, false, false, false, false, false, false, false, false, false, false, false] rfl rfl (by kernel_rfl) (fun _ _ _ h => h) (Or.inl ⟨by rfl, ?_⟩) ?_ ?_
  rotate_left
  · intro w'
    go_simp
    with_reducible rfl
  rotate_left
  · simp only [Act.put, List.setIfInBounds_toArray, List.set_cons_zero, List.set_cons_succ, i64_w, i32_w]
    rfl
  refine pure_ (i := 10) (N := some 24) (v := ?_) (a' := ?_) #[true, true, true, true, true, true, true, true, true, true, true, false, false, false, false, false, false, false, false, false, false] rfl rfl (by kernel_rfl) (fun _ _ _ h => h) (Or.inl ⟨by rfl, ?_⟩) ?_ ?_
  rotate_left
  · intro w'
    go_simp
    with_reducible rfl
  rotate_left
  · simp only [Act.put, List.setIfInBounds_toArray, List.set_cons_zero, List.set_cons_succ, i64_w, i32_w]
    rfl
  refine take_ (i := 11) (N := some 25) (v := ?_) (a' := ?_) #[true, true, true, true, true, true, true, true, true, true, true, true, false, false, false, false, false, false, false, false, false] rfl rfl (by kernel_rfl) (fun _ _ _ h => h) (Or.inl ⟨by rfl, ?_⟩) hHeld ?_ ?_
  rotate_left
  · rintro w' ⟨s0, s1, s2, s3, s4, s5, s6⟩
    go_simp
    with_reducible rfl
  rotate_left
  · simp only [Act.put, List.setIfInBounds_toArray, List.set_cons_zero, List.set_cons_succ, i64_w, i32_w]
    rfl
  refine pure_ (i := 12) (N := some 26) (v := ?_) (a' := ?_) #[true, true, true, true, true, true, true, true, true, true, true, true, true, false, false, false, false, false, false, false, false] rfl rfl (by kernel_rfl) (fun _ _ _ h => h) (Or.inl ⟨by rfl, ?_⟩) ?_ ?_
  rotate_left
  · intro w'
    go_simp
    with_reducible rfl
  rotate_left
  · simp only [Act.put, List.setIfInBounds_toArray, List.set_cons_zero, List.set_cons_succ, i64_w, i32_w]
    rfl
  refine take_ (i := 13) (N := some 27) (v := ?_) (a' := ?_) #[true, true, true, true, true, true, true, true, true, true, true, true, true, true, false, false, false, false, false, false, false] rfl rfl (by kernel_rfl) (fun _ _ _ h => h) (Or.inl ⟨by rfl, ?_⟩) hHeld ?_ ?_
  rotate_left
  · rintro w' ⟨s0, s1, s2, s3, s4, s5, s6⟩
    go_simp
    with_reducible rfl
  rotate_left
  · simp only [Act.put, List.setIfInBounds_toArray, List.set_cons_zero, List.set_cons_succ, i64_w, i32_w]
    rfl
  refine one_ (i := 14) (N := some 28) #[true, true, true, true, true, true, true, true, true, true, true, true, true, true, true, false, false, false, false, false, false] rfl rfl (by kernel_rfl) (by decide) (fun K hK => ?_)
  refine goes_ Tryz.func124 (by kernel_rfl) rfl #[.agg #[.string ⟨#[120]⟩, .slice none 0 0], wh] (by rfl) rfl rfl (by simp only [List.map_toArray, List.map_cons, List.map_nil]; rfl) ?_
  refine (WLeave.leave0 W6).mono ?_
  rintro e W7 ⟨v7, rfl, ht7, hb7⟩
  refine ⟨_, rfl, ?_⟩
  obtain ⟨tb, c7, r7, rfl, hc7, hl7, hw7⟩ := ht7
  have HA7 := Lib.hid (HA6.out.below hb7)
  have HT7 : Hid (Tms W7 W.heap.size true (.slice (some ⟨tb, 0, none⟩) 1 c7)) := Lib.hid ⟨tb, c7, r7, rfl, hc7, Nat.le_trans HB6.out.size hl7, hw7⟩
  have HX7 := Lib.hid (blk_below HX6.out hb7)
  have HB7 := Lib.hid (below_step HB6.out hb7)
  clear hc7 hl7 hw7 hb7 HA6 HX6 HB6 HT6
  refine hK.out _ _ ⟨(blk_cell HA7.out.q 6).trans rfl, (blk_cell HA7.out.n 0).trans rfl, (blk_cell HA7.out.n 1).trans rfl, (blk_cell HX7.out 3).trans rfl, (blk_cell HX7.out 4).trans rfl, (blk_cell HX7.out 5).trans rfl, (blk_cell HX7.out 6).trans rfl⟩ (fun hHeld => ?_)
  clear hK K
  refine norm_ (a' := ?_) ?_ ?_
  rotate_left
  · show Act.put _ (some 28) _ = _
    simp only [Act.put, List.setIfInBounds_toArray, List.set_cons_zero, List.set_cons_succ, i64_w, i32_w]
    rfl
  refine pure_ (i := 15) (N := some 13) (v := ?_) (a' := ?_) #[true, true, true, true, true, true, true, true, true, true, true, true, true, true, true, true, false, false, false, false, false] rfl rfl (by kernel_rfl) (fun _ _ _ h => h) (Or.inl ⟨by rfl, ?_⟩) ?_ ?_
  rotate_left
  · intro w'
    go_simp
    with_reducible rfl
  rotate_left
  · simp only [Act.put, List.setIfInBounds_toArray, List.set_cons_zero, List.set_cons_succ, i64_w, i32_w]
    rfl
  refine pure_ (i := 16) (N := some 29) (v := ?_) (a' := ?_) #[true, true, true, true, true, true, true, true, true, true, true, true, true, true, true, true, true, false, false, false, false] rfl rfl (by kernel_rfl) (fun _ _ _ h => h) (Or.inl ⟨by rfl, ?_⟩) ?_ ?_
  rotate_left
  · intro w'
    go_simp
    with_reducible rfl
  rotate_left
  · simp only [Act.put, List.setIfInBounds_toArray, List.set_cons_zero, List.set_cons_succ, i64_w, i32_w]
    rfl
  refine pure_ (i := 17) (N := some 30) (v := ?_) (a' := ?_) #[true, true, true, true, true, true, true, true, true, true, true, true, true, true, true, true, true, true, false, false, false] rfl rfl (by kernel_rfl) (fun _ _ _ h => h) (Or.inl ⟨by rfl, ?_⟩) ?_ ?_
  rotate_left
  · intro w'
    go_simp
    with_reducible rfl
  rotate_left
  · simp only [Act.put, List.setIfInBounds_toArray, List.set_cons_zero, List.set_cons_succ, i64_w, i32_w]
    rfl
  refine pure_ (i := 18) (N := some 31) (v := ?_) (a' := ?_) #[true, true, true, true, true, true, true, true, true, true, true, true, true, true, true, true, true, true, true, false, false] rfl rfl (by kernel_rfl) (fun _ _ _ h => h) (Or.inl ⟨by rfl, ?_⟩) ?_ ?_
  rotate_left
  · intro w'
    go_simp
    with_reducible rfl
  rotate_left
  · simp only [Act.put, List.setIfInBounds_toArray, List.set_cons_zero, List.set_cons_succ, i64_w, i32_w]
    rfl
  refine last_ (i := 19) (N := none) #[true, true, true, true, true, true, true, true, true, true, true, true, true, true, true, true, true, true, true, true, false] rfl rfl (by kernel_rfl) (by decide) (fun K hK => ?_)
  have n0 : W7.cell? ⟨nb, 0, none⟩ = some (.string ⟨#[120]⟩) := (blk_cell HA7.out.n 0).trans rfl
  have n1 : W7.cell? ⟨nb, 1, none⟩ = some (.slice none 0 0) := (blk_cell HA7.out.n 1).trans rfl
  have m0 : W7.frozen? ⟨nb, 0, none⟩ = false := blk_frozen HA7.out.n 0
  have m1 : W7.frozen? ⟨nb, 1, none⟩ = false := blk_frozen HA7.out.n 1
  refine skip_ (w1 := ?_) (by rfl) rfl ?_ ?_
  rotate_left
  · go_simp
    rfl
  refine hK.out _ _ ?_
  clear hK K
  refine pure_ (i := 20) (N := some 5) (v := ?_) (a' := ?_) #[true, true, true, true, true, true, true, true, true, true, true, true, true, true, true, true, true, true, true, true, true] rfl rfl (by kernel_rfl) (fun _ _ _ h => h) (Or.inl ⟨by rfl, ?_⟩) ?_ ?_
  rotate_left
  · intro w'
    go_simp
    with_reducible rfl
  rotate_left
  · simp only [Act.put, List.setIfInBounds_toArray, List.set_cons_zero, List.set_cons_succ, i64_w, i32_w]
    rfl
  refine done_ (by kernel_rfl) ?_
  clear n0 n1 m0 m1 hHeld
  have HAX := Lib.hid (HA7.out.put (.slice (some ⟨tb, 0, none⟩) 1 c7))
  have HTX := Lib.hid (Tms.far (Tms.far HT7.out HA7.out.n (by decide) 0 (.string ⟨#[120]⟩)) (blk_set HA7.out.n 0 _) (by decide) 1 (.slice (some ⟨tb, 0, none⟩) 1 c7))
  have HFX := Lib.hid ((((Fr.refl W nb).step HB7.out).set nb 0 (.inl rfl) (.string ⟨#[120]⟩)).set nb 1 (.inl rfl) (.slice (some ⟨tb, 0, none⟩) 1 c7))
  clear HA7 HT7 HB7 HX7
  go_wp2_with fail
  go_ret
  exact ⟨.slice (some ⟨tb, 0, none⟩) 1 c7, rfl, HAX.out, HTX.out, HFX.out⟩
set_option maxHeartbeats 8000000 in
set_option maxRecDepth 100000 in
theorem times2 (W : World) (lo qb nb c : Nat) (hc : 1 ≤ c) (a : Value) (rest : List Value) (ha : At W qb nb c a rest) (hta : Tms W lo true a) :
    Calls Tryz.prog 77 #[.pointer (some ⟨qb, 0, none⟩), .agg #[.int .i64 2, .int .i64 0, .int .i64 0, .int .u32 7, .int .u8 1, .int .i64 16, .int .i64 4, .int .i64 0, .slice none 0 0, .int .i64 0, .int .i64 0, .bool false, .int .i64 0]] W fun e w' => ∃ a', e = .returned (.int .i64 0) ∧ At w' qb nb c a' rest ∧ Tms w' W.heap.size false a' ∧ Fr W w' nb := by
  obtain ⟨tb, ca, r, rfl, hca, hlo, hw⟩ := hta
  have HTA : Hid (Tms W lo true (.slice (some ⟨tb, 0, none⟩) 1 ca)) := Lib.hid ⟨tb, ca, r, rfl, hca, hlo, hw⟩
  have HWB := Lib.hid hw
  clear hw hlo
  have HA := Lib.hid ha
  have hnbl := blk_lt ha.n
  clear ha
  have hu_0 := Tryz.underlying31
  have hu_1 := Tryz.underlying25
  have hu_2 := Tryz.underlying39
  go_enter Tryz.func77, Tryz.ntmps77
  go_wp2_with fail
  have HB0 := Lib.hid (blk_new W (.cells #[.int .i64 2, .int .i64 0, .int .i64 0, .int .u32 7, .int .u8 1, .int .i64 16, .int .i64 4, .int .i64 0, .slice none 0 0, .int .i64 0, .int .i64 0, .bool false, .int .i64 0] 31))
  have HBW := Lib.hid (below_alloc (Below.refl W.heap.size W) (.cells #[.int .i64 2, .int .i64 0, .int .i64 0, .int .u32 7, .int .u8 1, .int .i64 16, .int .i64 4, .int .i64 0, .slice none 0 0, .int .i64 0, .int .i64 0, .bool false, .int .i64 0] 31))
  generalize W.alloc (.cells #[.int .i64 2, .int .i64 0, .int .i64 0, .int .u32 7, .int .u8 1, .int .i64 16, .int .i64 4, .int .i64 0, .slice none 0 0, .int .i64 0, .int .i64 0, .bool false, .int .i64 0] 31) = W1 at *
  have hbd : Below W1.heap.size W1 W1.drew := (Below.refl _ _).drew
  have HX6 := Lib.hid (blk_below HB0.out hbd)
  have HA6 := Lib.hid ((HA.out.below HBW.out).below hbd)
  have HB6 := Lib.hid (below_step HBW.out hbd)
  have HT6 := Lib.hid ((HTA.out.below HBW.out).below hbd)
  have HWB6 := Lib.hid ((HWB.out.below HBW.out).below hbd)
  clear hbd HB0 HBW HA HTA HWB
  refine start_ (n := 21) (S := fun w' => w'.cell? ⟨qb, 6, none⟩ = some (.slice (some ⟨nb, 0, none⟩) 1 c) ∧ w'.cell? ⟨nb, 0, none⟩ = some (.string ⟨#[120]⟩) ∧ w'.cell? ⟨nb, 1, none⟩ = some (.slice (some ⟨tb, 0, none⟩) 1 ca) ∧ w'.cell? ⟨W.heap.size, 3, none⟩ = some (.int .u32 7) ∧ w'.cell? ⟨W.heap.size, 4, none⟩ = some (.int .u8 1) ∧ w'.cell? ⟨W.heap.size, 5, none⟩ = some (.int .i64 16) ∧ w'.cell? ⟨W.heap.size, 6, none⟩ = some (.int .i64 4)) (ds := [19]) #[false, false, false, false, false, false, false, false, false, false, false, false, false, false, false, false, false, false, false, false, false] (by kernel_rfl) rfl rfl ⟨(blk_cell HA6.out.q 6).trans rfl, (blk_cell HA6.out.n 0).trans rfl, (blk_cell HA6.out.n 1).trans rfl, (blk_cell HX6.out 3).trans rfl, (blk_cell HX6.out 4).trans rfl, (blk_cell HX6.out 5).trans rfl, (blk_cell HX6.out 6).trans rfl⟩ (fun hHeld => ?_)
  generalize W1.drew = W6 at *
  refine pure_ (i := 0) (N := some 35) (v := ?_) (a' := ?_) #[true, false, false, false, false, false, false, false, false, false, false, false, false, false, false, false, false, false, false, false, false] rfl rfl (by kernel_rfl) (fun _ _ _ h => h) (Or.inl ⟨by rfl, ?_⟩) ?_ ?_
  rotate_left
  · intro w'
    go_simp
    with_reducible rfl
  rotate_left
  · simp only [Act.put, List.setIfInBounds_toArray, List.set_cons_zero, List.set_cons_succ, i64_w, i32_w]
    rfl
  refine pure_ (i := 1) (N := some 36) (v := ?_) (a' := ?_) #[true, true, false, false, false, false, false, false, false, false, false, false, false, false, false, false, false, false, false, false, false] rfl rfl (by kernel_rfl) (fun _ _ _ h => h) (Or.inl ⟨by rfl, ?_⟩) ?_ ?_
  rotate_left
  · intro w'
    go_simp
    with_reducible rfl
  rotate_left
  · simp only [Act.put, List.setIfInBounds_toArray, List.set_cons_zero, List.set_cons_succ, i64_w, i32_w]
    rfl
  refine pure_ (i := 2) (N := some 37) (v := ?_) (a' := ?_) #[true, true, true, false, false, false, false, false, false, false, false, false, false, false, false, false, false, false, false, false, false] rfl rfl (by kernel_rfl) (fun _ _ _ h => h) (Or.inl ⟨by rfl, ?_⟩) ?_ ?_
  rotate_left
  · intro w'
    go_simp
    with_reducible rfl
  rotate_left
  · simp only [Act.put, List.setIfInBounds_toArray, List.set_cons_zero, List.set_cons_succ, i64_w, i32_w]
    rfl
  refine take_ (i := 3) (N := some 38) (v := ?_) (a' := ?_) #[true, true, true, true, false, false, false, false, false, false, false, false, false, false, false, false, false, false, false, false, false] rfl rfl (by kernel_rfl) (fun _ _ _ h => h) (Or.inl ⟨by rfl, ?_⟩) hHeld ?_ ?_
  rotate_left
  · rintro w' ⟨s0, s1, s2, s3, s4, s5, s6⟩
    go_simp
    with_reducible rfl
  rotate_left
  · simp only [Act.put, List.setIfInBounds_toArray, List.set_cons_zero, List.set_cons_succ, i64_w, i32_w]
    rfl
  refine pure_ (i := 4) (N := some 39) (v := ?_) (a' := ?_) #[true, true, true, true, true, false, false, false, false, false, false, false, false, false, false, false, false, false, false, false, false] rfl rfl (by kernel_rfl) (fun _ _ _ h => h) (Or.inl ⟨by rfl, ?_⟩) ?_ ?_
  rotate_left
  · intro w'
    go_simp
    with_reducible rfl
  rotate_left
  · simp only [Act.put, List.setIfInBounds_toArray, List.set_cons_zero, List.set_cons_succ, i64_w, i32_w]
    rfl
  refine pure_ (i := 5) (N := some 40) (v := ?_) (a' := ?_) #[true, true, true, true, true, true, false, false, false, false, false, false, false, false, false, false, false, false, false, false, false] rfl rfl (by kernel_rfl) (fun _ _ _ h => h) (Or.inl ⟨by rfl, ?_⟩) ?_ ?_
  rotate_left
  · intro w'
    go_simp
    with_reducible rfl
  rotate_left
  · simp only [Act.put, List.setIfInBounds_toArray, List.set_cons_zero, List.set_cons_succ, i64_w, i32_w]
    rfl
  refine pure_ (i := 6) (N := some 41) (v := ?_) (a' := ?_) #[true, true, true, true, true, true, true, false, false, false, false, false, false, false, false, false, false, false, false, false, false] rfl rfl (by kernel_rfl) (fun _ _ _ h => h) (Or.inl ⟨by rfl, ?_⟩) ?_ ?_
  rotate_left
  · intro w'
    go_simp
    with_reducible rfl
  rotate_left
  · simp only [Act.put, List.setIfInBounds_toArray, List.set_cons_zero, List.set_cons_succ, i64_w, i32_w]
    rfl
  refine pure_ (i := 7) (N := some 42) (v := ?_) (a' := ?_) #[true, true, true, true, true, true, true, true, false, false, false, false, false, false, false, false, false, false, false, false, false] rfl rfl (by kernel_rfl) (fun _ _ _ h => h) (Or.inl ⟨by rfl, ?_⟩) ?_ ?_
  rotate_left
  · intro w'
    go_simp
    with_reducible rfl
  rotate_left
  · simp only [Act.put, List.setIfInBounds_toArray, List.set_cons_zero, List.set_cons_succ, i64_w, i32_w]
    rfl
  refine take_ (i := 8) (N := some 43) (v := ?_) (a' := ?_) #[true, true, true, true, true, true, true, true, true, false, false, false, false, false, false, false, false, false, false, false, false] rfl rfl (by kernel_rfl) (fun _ _ _ h => h) (Or.inl ⟨by rfl, ?_⟩) hHeld ?_ ?_
  rotate_left
  · rintro w' ⟨s0, s1, s2, s3, s4, s5, s6⟩
    go_simp
    with_reducible rfl
  rotate_left
  · simp only [Act.put, List.setIfInBounds_toArray, List.set_cons_zero, List.set_cons_succ, i64_w, i32_w]
    rfl
  refine pure_ (i := 9) (N := some 44) (v := ?_) (a' := ?_) #[true, true, true, true, true, true, true, true, true, true, false, false, false, false, false, false, false, false, false, false, false] rfl rfl (by kernel_rfl) (fun _ _ _ h => h) (Or.inl ⟨by rfl, ?_⟩) ?_ ?_
  rotate_left
  · intro w'
    go_simp
    with_reducible rfl
  rotate_left
  · simp only [Act.put, List.setIfInBounds_toArray, List.set_cons_zero, List.set_cons_succ, i64_w, i32_w]
    rfl
  refine pure_ (i := 10) (N := some 45) (v := ?_) (a' := ?_) #[true, true, true, true, true, true, true, true, true, true, true, false, false, false, false, false, false, false, false, false, false] rfl rfl (by kernel_rfl) (fun _ _ _ h => h) (Or.inl ⟨by rfl, ?_⟩) ?_ ?_
  rotate_left
  · intro w'
    go_simp
    with_reducible rfl
  rotate_left
  · simp only [Act.put, List.setIfInBounds_toArray, List.set_cons_zero, List.set_cons_succ, i64_w, i32_w]
    rfl
  refine take_ (i := 11) (N := some 46) (v := ?_) (a' := ?_) #[true, true, true, true, true, true, true, true, true, true, true, true, false, false, false, false, false, false, false, false, false] rfl rfl (by kernel_rfl) (fun _ _ _ h => h) (Or.inl ⟨by rfl, ?_⟩) hHeld ?_ ?_
  rotate_left
  · rintro w' ⟨s0, s1, s2, s3, s4, s5, s6⟩
    go_simp
    with_reducible rfl
  rotate_left
  · simp only [Act.put, List.setIfInBounds_toArray, List.set_cons_zero, List.set_cons_succ, i64_w, i32_w]
    rfl
  refine pure_ (i := 12) (N := some 47) (v := ?_) (a' := ?_) #[true, true, true, true, true, true, true, true, true, true, true, true, true, false, false, false, false, false, false, false, false] rfl rfl (by kernel_rfl) (fun _ _ _ h => h) (Or.inl ⟨by rfl, ?_⟩) ?_ ?_
  rotate_left
  · intro w'
    go_simp
    with_reducible rfl
  rotate_left
  · simp only [Act.put, List.setIfInBounds_toArray, List.set_cons_zero, List.set_cons_succ, i64_w, i32_w]
    rfl
  refine take_ (i := 13) (N := some 48) (v := ?_) (a' := ?_) #[true, true, true, true, true, true, true, true, true, true, true, true, true, true, false, false, false, false, false, false, false] rfl rfl (by kernel_rfl) (fun _ _ _ h => h) (Or.inl ⟨by rfl, ?_⟩) hHeld ?_ ?_
  rotate_left
  · rintro w' ⟨s0, s1, s2, s3, s4, s5, s6⟩
    go_simp
    with_reducible rfl
  rotate_left
  · simp only [Act.put, List.setIfInBounds_toArray, List.set_cons_zero, List.set_cons_succ, i64_w, i32_w]
    rfl
  refine one_ (i := 14) (N := some 49) #[true, true, true, true, true, true, true, true, true, true, true, true, true, true, true, false, false, false, false, false, false] rfl rfl (by kernel_rfl) (by decide) (fun K hK => ?_)
  refine goes_ Tryz.func125 (by kernel_rfl) rfl #[.agg #[.string ⟨#[120]⟩, .slice (some ⟨tb, 0, none⟩) 1 ca], wh] (by rfl) rfl rfl (by simp only [List.map_toArray, List.map_cons, List.map_nil]; rfl) ?_
  refine (WReturn.return1 W6 tb ca hca r (HWB6.out)).mono ?_
  rintro e W7 ⟨rfl, hb7⟩
  refine ⟨_, rfl, ?_⟩
  have HA7 := Lib.hid (HA6.out.below hb7)
  have HT7 : Hid (Tms W7 W.heap.size false (.slice none 0 0)) := Lib.hid rfl
  have HX7 := Lib.hid (blk_below HX6.out hb7)
  have HB7 := Lib.hid (below_step HB6.out hb7)
  clear hb7 HA6 HX6 HB6 HT6
  refine hK.out _ _ ⟨(blk_cell HA7.out.q 6).trans rfl, (blk_cell HA7.out.n 0).trans rfl, (blk_cell HA7.out.n 1).trans rfl, (blk_cell HX7.out 3).trans rfl, (blk_cell HX7.out 4).trans rfl, (blk_cell HX7.out 5).trans rfl, (blk_cell HX7.out 6).trans rfl⟩ (fun hHeld => ?_)
  clear hK K
  refine norm_ (a' := ?_) ?_ ?_
  rotate_left
  · show Act.put _ (some 49) _ = _
    simp only [Act.put, List.setIfInBounds_toArray, List.set_cons_zero, List.set_cons_succ, i64_w, i32_w]
    rfl
  refine pure_ (i := 15) (N := some 34) (v := ?_) (a' := ?_) #[true, true, true, true, true, true, true, true, true, true, true, true, true, true, true, true, false, false, false, false, false] rfl rfl (by kernel_rfl) (fun _ _ _ h => h) (Or.inl ⟨by rfl, ?_⟩) ?_ ?_
  rotate_left
  · intro w'
    go_simp
    with_reducible rfl
  rotate_left
  · simp only [Act.put, List.setIfInBounds_toArray, List.set_cons_zero, List.set_cons_succ, i64_w, i32_w]
    rfl
  refine pure_ (i := 16) (N := some 50) (v := ?_) (a' := ?_) #[true, true, true, true, true, true, true, true, true, true, true, true, true, true, true, true, true, false, false, false, false] rfl rfl (by kernel_rfl) (fun _ _ _ h => h) (Or.inl ⟨by rfl, ?_⟩) ?_ ?_
  rotate_left
  · intro w'
    go_simp
    with_reducible rfl
  rotate_left
  · simp only [Act.put, List.setIfInBounds_toArray, List.set_cons_zero, List.set_cons_succ, i64_w, i32_w]
    rfl
  refine pure_ (i := 17) (N := some 51) (v := ?_) (a' := ?_) #[true, true, true, true, true, true, true, true, true, true, true, true, true, true, true, true, true, true, false, false, false] rfl rfl (by kernel_rfl) (fun _ _ _ h => h) (Or.inl ⟨by rfl, ?_⟩) ?_ ?_
  rotate_left
  · intro w'
    go_simp
    with_reducible rfl
  rotate_left
  · simp only [Act.put, List.setIfInBounds_toArray, List.set_cons_zero, List.set_cons_succ, i64_w, i32_w]
    rfl
  refine pure_ (i := 18) (N := some 52) (v := ?_) (a' := ?_) #[true, true, true, true, true, true, true, true, true, true, true, true, true, true, true, true, true, true, true, false, false] rfl rfl (by kernel_rfl) (fun _ _ _ h => h) (Or.inl ⟨by rfl, ?_⟩) ?_ ?_
  rotate_left
  · intro w'
    go_simp
    with_reducible rfl
  rotate_left
  · simp only [Act.put, List.setIfInBounds_toArray, List.set_cons_zero, List.set_cons_succ, i64_w, i32_w]
    rfl
  refine last_ (i := 19) (N := none) #[true, true, true, true, true, true, true, true, true, true, true, true, true, true, true, true, true, true, true, true, false] rfl rfl (by kernel_rfl) (by decide) (fun K hK => ?_)
  have n0 : W7.cell? ⟨nb, 0, none⟩ = some (.string ⟨#[120]⟩) := (blk_cell HA7.out.n 0).trans rfl
  have n1 : W7.cell? ⟨nb, 1, none⟩ = some (.slice (some ⟨tb, 0, none⟩) 1 ca) := (blk_cell HA7.out.n 1).trans rfl
  have m0 : W7.frozen? ⟨nb, 0, none⟩ = false := blk_frozen HA7.out.n 0
  have m1 : W7.frozen? ⟨nb, 1, none⟩ = false := blk_frozen HA7.out.n 1
  refine skip_ (w1 := ?_) (by rfl) rfl ?_ ?_
  rotate_left
  · go_simp
    rfl
  refine hK.out _ _ ?_
  clear hK K
  refine pure_ (i := 20) (N := some 5) (v := ?_) (a' := ?_) #[true, true, true, true, true, true, true, true, true, true, true, true, true, true, true, true, true, true, true, true, true] rfl rfl (by kernel_rfl) (fun _ _ _ h => h) (Or.inl ⟨by rfl, ?_⟩) ?_ ?_
  rotate_left
  · intro w'
    go_simp
    with_reducible rfl
  rotate_left
  · simp only [Act.put, List.setIfInBounds_toArray, List.set_cons_zero, List.set_cons_succ, i64_w, i32_w]
    rfl
  refine done_ (by kernel_rfl) ?_
  clear n0 n1 m0 m1 hHeld
  have HAX := Lib.hid (HA7.out.put (.slice none 0 0))
  have HTX := Lib.hid (Tms.far (Tms.far HT7.out HA7.out.n (by decide) 0 (.string ⟨#[120]⟩)) (blk_set HA7.out.n 0 _) (by decide) 1 (.slice none 0 0))
  have HFX := Lib.hid ((((Fr.refl W nb).step HB7.out).set nb 0 (.inl rfl) (.string ⟨#[120]⟩)).set nb 1 (.inl rfl) (.slice none 0 0))
  clear HA7 HT7 HB7 HX7
  go_wp2_with fail
  go_ret
  exact ⟨.slice none 0 0, rfl, HAX.out, HTX.out, HFX.out⟩
set_option maxHeartbeats 8000000 in
set_option maxRecDepth 100000 in
theorem change1 (W : World) (lo qb nb c : Nat) (hc : 1 ≤ c) (a : Value) (rest : List Value) (ha : At W qb nb c a rest) (hta : Tms W lo false a) :
    Calls Tryz.prog 37 #[.pointer (some ⟨qb, 0, none⟩), .agg #[.int .i64 1, .int .i64 0, .int .i64 0, .int .u32 7, .int .u8 1, .int .i64 16, .int .i64 4, .int .i64 0, .slice none 0 0, .int .i64 0, .int .i64 0, .bool false, .int .i64 0]] W fun e w' => ∃ a', e = .returned (.int .i64 0) ∧ At w' qb nb c a' rest ∧ Tms w' W.heap.size true a' ∧ Fr W w' nb := by
  have HA := Lib.hid ha
  have HTA := Lib.hid hta
  clear ha hta
  have hu_0 := Tryz.underlying31
  go_enter Tryz.func37, Tryz.ntmps37
  go_wp2_with fail
  have HB0 := Lib.hid (blk_new W (.cells #[.int .i64 1, .int .i64 0, .int .i64 0, .int .u32 7, .int .u8 1, .int .i64 16, .int .i64 4, .int .i64 0, .slice none 0 0, .int .i64 0, .int .i64 0, .bool false, .int .i64 0] 31))
  have HBW := Lib.hid (below_alloc (Below.refl W.heap.size W) (.cells #[.int .i64 1, .int .i64 0, .int .i64 0, .int .u32 7, .int .u8 1, .int .i64 16, .int .i64 4, .int .i64 0, .slice none 0 0, .int .i64 0, .int .i64 0, .bool false, .int .i64 0] 31))
  generalize W.alloc (.cells #[.int .i64 1, .int .i64 0, .int .i64 0, .int .u32 7, .int .u8 1, .int .i64 16, .int .i64 4, .int .i64 0, .slice none 0 0, .int .i64 0, .int .i64 0, .bool false, .int .i64 0] 31) = W1 at *
  refine (times1 W1 lo qb nb c hc a rest (HA.out.below HBW.out) (HTA.out.below HBW.out)).mono ?_
  rintro e W2 ⟨a', rfl, ha2, ht2, hf2⟩
  have HA2 := Lib.hid ha2
  have HT2 := Lib.hid (ht2.mono HBW.out.size)
  have HF2 := Lib.hid (((Fr.refl W nb).step HBW.out).trans hf2)
  clear ha2 ht2 hf2 HA HTA HB0 HBW
  go_wp2_with fail
  go_ret
  exact ⟨a', rfl, HA2.out, HT2.out, HF2.out⟩
set_option maxHeartbeats 8000000 in
set_option maxRecDepth 100000 in
theorem change2 (W : World) (lo qb nb c : Nat) (hc : 1 ≤ c) (a : Value) (rest : List Value) (ha : At W qb nb c a rest) (hta : Tms W lo true a) :
    Calls Tryz.prog 37 #[.pointer (some ⟨qb, 0, none⟩), .agg #[.int .i64 2, .int .i64 0, .int .i64 0, .int .u32 7, .int .u8 1, .int .i64 16, .int .i64 4, .int .i64 0, .slice none 0 0, .int .i64 0, .int .i64 0, .bool false, .int .i64 0]] W fun e w' => ∃ a', e = .returned (.int .i64 0) ∧ At w' qb nb c a' rest ∧ Tms w' W.heap.size false a' ∧ Fr W w' nb := by
  have HA := Lib.hid ha
  have HTA := Lib.hid hta
  clear ha hta
  have hu_0 := Tryz.underlying31
  go_enter Tryz.func37, Tryz.ntmps37
  go_wp2_with fail
  have HB0 := Lib.hid (blk_new W (.cells #[.int .i64 2, .int .i64 0, .int .i64 0, .int .u32 7, .int .u8 1, .int .i64 16, .int .i64 4, .int .i64 0, .slice none 0 0, .int .i64 0, .int .i64 0, .bool false, .int .i64 0] 31))
  have HBW := Lib.hid (below_alloc (Below.refl W.heap.size W) (.cells #[.int .i64 2, .int .i64 0, .int .i64 0, .int .u32 7, .int .u8 1, .int .i64 16, .int .i64 4, .int .i64 0, .slice none 0 0, .int .i64 0, .int .i64 0, .bool false, .int .i64 0] 31))
  generalize W.alloc (.cells #[.int .i64 2, .int .i64 0, .int .i64 0, .int .u32 7, .int .u8 1, .int .i64 16, .int .i64 4, .int .i64 0, .slice none 0 0, .int .i64 0, .int .i64 0, .bool false, .int .i64 0] 31) = W1 at *
  refine (times2 W1 lo qb nb c hc a rest (HA.out.below HBW.out) (HTA.out.below HBW.out)).mono ?_
  rintro e W2 ⟨a', rfl, ha2, ht2, hf2⟩
  have HA2 := Lib.hid ha2
  have HT2 := Lib.hid (ht2.mono HBW.out.size)
  have HF2 := Lib.hid (((Fr.refl W nb).step HBW.out).trans hf2)
  clear ha2 ht2 hf2 HA HTA HB0 HBW
  go_wp2_with fail
  go_ret
  exact ⟨a', rfl, HA2.out, HT2.out, HF2.out⟩
end Go.Proofs.YtklgecdklngekaaGreatDoor.WTimes
