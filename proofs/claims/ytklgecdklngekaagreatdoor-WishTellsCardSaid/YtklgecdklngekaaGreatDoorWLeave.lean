/- person.Leave of a person without times -/
import Derived.Test.YtklgecdklngekaaGreatDoorWIx
import Derived.Test.YtklgecdklngekaaGreatDoorWClone
namespace Go.Proofs.YtklgecdklngekaaGreatDoor.WLeave
set_option linter.unusedVariables false
set_option linter.unusedSimpArgs false
open Go.RowKit Go.Proofs.YtklgecdklngekaaGreatDoorW.PrintWords Go.Proofs.YtklgecdklngekaaGreatDoorW.PrintLast Go.Proofs.YtklgecdklngekaaGreatDoor.Q Go.Proofs.YtklgecdklngekaaGreatDoor.WPers Go.Proofs.YtklgecdklngekaaGreatDoor.WExm Go.Proofs.YtklgecdklngekaaGreatDoor.WIx
set_option maxHeartbeats 4000000 in
set_option maxRecDepth 100000 in
theorem leave0 (W : World) : Calls Tryz.prog 124 #[.agg #[.string ⟨#[120]⟩, .slice none 0 0], wh] W fun e w' => ∃ v', e = .returned (.tuple #[.agg #[.string ⟨#[120]⟩, v'], .int .i64 0]) ∧ Tms w' W.heap.size true v' ∧ Below W.heap.size W w' := by
  have hu_0 := Tryz.underlying39
  have hu_1 := Tryz.underlying25
  unfold wh
  go_enter Tryz.func124, Tryz.ntmps124
  go_wp2_with fail
  have HB0 := Lib.hid (blk_alloc (blk_alloc (blk_new W (.cells #[.string ⟨#[120]⟩, .slice none 0 0] 39)) (.cells #[.int .u32 7, .int .u8 1, .int .i64 16, .int .i64 4] 25)) (.cells #[.string ⟨#[]⟩, .slice none 0 0] 39))
  have hn1 := blk_new (W.alloc (.cells #[.string ⟨#[120]⟩, .slice none 0 0] 39)) (.cells #[.int .u32 7, .int .u8 1, .int .i64 16, .int .i64 4] 25)
  rw [World.size_alloc] at hn1
  have HB1 := Lib.hid (blk_alloc (hn1) (.cells #[.string ⟨#[]⟩, .slice none 0 0] 39))
  clear hn1
  have hn2 := blk_new ((W.alloc (.cells #[.string ⟨#[120]⟩, .slice none 0 0] 39)).alloc (.cells #[.int .u32 7, .int .u8 1, .int .i64 16, .int .i64 4] 25)) (.cells #[.string ⟨#[]⟩, .slice none 0 0] 39)
  rw [World.size_alloc, World.size_alloc] at hn2
  have HB2 := Lib.hid (hn2)
  clear hn2
  have HBW := Lib.hid (below_alloc (below_alloc (below_alloc (Below.refl W.heap.size W) (.cells #[.string ⟨#[120]⟩, .slice none 0 0] 39)) (.cells #[.int .u32 7, .int .u8 1, .int .i64 16, .int .i64 4] 25)) (.cells #[.string ⟨#[]⟩, .slice none 0 0] 39))
  generalize ((W.alloc (.cells #[.string ⟨#[120]⟩, .slice none 0 0] 39)).alloc (.cells #[.int .u32 7, .int .u8 1, .int .i64 16, .int .i64 4] 25)).alloc (.cells #[.string ⟨#[]⟩, .slice none 0 0] 39) = W1 at *
  have hbd : Below W1.heap.size W1 W1.drew := (Below.refl _ _).drew
  have HP6 := Lib.hid (blk_below HB0.out hbd)
  have HW6 := Lib.hid (blk_below HB1.out hbd)
  have HR6 := Lib.hid (blk_below HB2.out hbd)
  have HB6 := Lib.hid (below_step HBW.out hbd)
  clear hbd HB0 HB1 HB2 HBW
  refine start_ (n := 8) (S := fun w' => w'.cell? ⟨W.heap.size, 1, none⟩ = some (.slice none 0 0) ∧ w'.cell? ⟨W.heap.size + 1, 0, none⟩ = some (.int .u32 7) ∧ w'.cell? ⟨W.heap.size + 1, 1, none⟩ = some (.int .u8 1) ∧ w'.cell? ⟨W.heap.size + 1, 2, none⟩ = some (.int .i64 16) ∧ w'.cell? ⟨W.heap.size + 1, 3, none⟩ = some (.int .i64 4)) (ds := [7]) #[false, false, false, false, false, false, false, false] (by kernel_rfl) rfl rfl ⟨(blk_cell HP6.out 1).trans rfl, (blk_cell HW6.out 0).trans rfl, (blk_cell HW6.out 1).trans rfl, (blk_cell HW6.out 2).trans rfl, (blk_cell HW6.out 3).trans rfl⟩ (fun hHeld => ?_)
  generalize W1.drew = W6 at *
  refine pure_ (i := 0) (N := some 11) (v := ?_) (a' := ?_) #[true, false, false, false, false, false, false, false] rfl rfl (by kernel_rfl) (fun _ _ _ h => h) (Or.inl ⟨by rfl, ?_⟩) ?_ ?_
  rotate_left
  · intro w'
    go_simp
    with_reducible rfl
  rotate_left
  · simp only [Act.put, List.setIfInBounds_toArray, List.set_cons_zero, List.set_cons_succ, i64_w, i32_w]
    rfl
  refine take_ (i := 1) (N := some 12) (v := ?_) (a' := ?_) #[true, true, false, false, false, false, false, false] rfl rfl (by kernel_rfl) (fun _ _ _ h => h) (Or.inl ⟨by rfl, ?_⟩) hHeld ?_ ?_
  rotate_left
  · rintro w' ⟨s0, s1, s2, s3, s4⟩
    go_simp
    with_reducible rfl
  rotate_left
  · simp only [Act.put, List.setIfInBounds_toArray, List.set_cons_zero, List.set_cons_succ, i64_w, i32_w]
    rfl
  refine take_ (i := 3) (N := some 14) (v := ?_) (a' := ?_) #[true, true, false, true, false, false, false, false] rfl rfl (by kernel_rfl) (fun _ _ _ h => h) (Or.inl ⟨by rfl, ?_⟩) hHeld ?_ ?_
  rotate_left
  · rintro w' ⟨s0, s1, s2, s3, s4⟩
    go_simp
    with_reducible rfl
  rotate_left
  · simp only [Act.put, List.setIfInBounds_toArray, List.set_cons_zero, List.set_cons_succ, i64_w, i32_w]
    rfl
  refine two_ (i := 2) (j := 4) (Ni := some 13) (Nj := some 15) #[true, true, true, true, false, false, false, false] #[true, true, false, true, true, false, false, false] rfl rfl rfl rfl (by kernel_rfl) (by decide) (by decide) (fun K hK => ?_) (fun K hK => ?_)
  · refine goes_ Tryz.func66 (by kernel_rfl) rfl #[.slice none 0 0] (by rfl) rfl rfl (by simp only [List.map_toArray, List.map_cons, List.map_nil]; rfl) ?_
    refine (WClone.nilWhen _).mono ?_
    rintro e W6 ⟨rfl, rfl⟩
    refine ⟨_, rfl, ?_⟩
    refine hK.out _ _ hHeld (fun hHeld => ?_)
    clear hK K
    refine norm_ (a' := ?_) ?_ ?_
    rotate_left
    · show Act.put _ (some 13) _ = _
      simp only [Act.put, List.setIfInBounds_toArray, List.set_cons_zero, List.set_cons_succ]
      rfl
    refine one_ (i := 4) (N := some 15) #[true, true, true, true, true, false, false, false] rfl rfl (by kernel_rfl) (by decide) (fun K hK => ?_)
    refine value_ (w1 := ?_) (v := ?_) (by rfl) rfl ?_ ?_
    rotate_left 2
    · go_simp
      constructor
      · rfl
      · rfl
    refine hK.out _ _ ⟨(blk_cell (blk_alloc HP6.out _) 1).trans rfl, (blk_cell (blk_alloc HW6.out _) 0).trans rfl, (blk_cell (blk_alloc HW6.out _) 1).trans rfl, (blk_cell (blk_alloc HW6.out _) 2).trans rfl, (blk_cell (blk_alloc HW6.out _) 3).trans rfl⟩ (fun hHeld => ?_)
    clear hK K
    refine norm_ (a' := ?_) ?_ ?_
    rotate_left
    · show Act.put _ (some 15) _ = _
      simp only [Act.put, List.setIfInBounds_toArray, List.set_cons_zero, List.set_cons_succ]
      rfl
    refine one_ (i := 5) (N := some 16) #[true, true, true, true, true, true, false, false] rfl rfl (by kernel_rfl) (by decide) (fun K hK => ?_)
    refine step_append_cells (w0 := W) W.heap.size (by rfl) (.tmp 13) (.tmp 15) 37 25 (.agg #[.int .u32 0, .int .u8 0, .int .i64 0, .int .i64 0]) 4 24 rfl Tryz.underlying37 WClone.infoWhen rfl (by decide) (by decide) (.slice none 0 0) 0 [] [.int .u32 7, .int .u8 1, .int .i64 16, .int .i64 4] rfl rfl rfl (by intro u hu; simp at hu; rcases hu with rfl | rfl | rfl | rfl <;> rfl) ⟨rfl, .inl ⟨rfl, rfl⟩⟩ HB6.out HB6.out.size (by decide) ?_
    intro v1 w1 hown hb1 hgrow hat
    have hg : Below W6.heap.size W6 w1 := (Below.refl W6.heap.size W6).grown hgrow (Nat.le_refl _) (by intro k hk; simp [Value.ownBlock] at hk)
    have HP9 := Lib.hid (blk_below HP6.out hg)
    have HW9 := Lib.hid (blk_below HW6.out hg)
    have HR9 := Lib.hid (blk_below HR6.out hg)
    obtain ⟨tb, c, r, rfl, hc, hlo, hwb⟩ := tms_of hown
    have HWB := Lib.hid hwb
    have HB9 := Lib.hid hb1
    clear hown hb1 hgrow hat hg hwb
    refine hK.out _ _ ⟨(blk_cell HP9.out 1).trans rfl, (blk_cell HW9.out 0).trans rfl, (blk_cell HW9.out 1).trans rfl, (blk_cell HW9.out 2).trans rfl, (blk_cell HW9.out 3).trans rfl⟩ (fun hHeld => ?_)
    clear hK K
    refine norm_ (a' := ?_) ?_ ?_
    rotate_left
    · show Act.put _ (some 16) _ = _
      simp only [Act.put, List.setIfInBounds_toArray, List.set_cons_zero, List.set_cons_succ]
      rfl
    refine pure_ (i := 6) (N := some 17) (v := ?_) (a' := ?_) #[true, true, true, true, true, true, true, false] rfl rfl (by kernel_rfl) (fun _ _ _ h => h) (Or.inl ⟨by rfl, ?_⟩) ?_ ?_
    rotate_left
    · intro w'
      go_simp
      with_reducible rfl
    rotate_left
    · simp only [Act.put, List.setIfInBounds_toArray, List.set_cons_zero, List.set_cons_succ, i64_w, i32_w]
      rfl
    refine last_ (i := 7) (N := none) #[true, true, true, true, true, true, true, true] rfl rfl (by kernel_rfl) (by decide) (fun K hK => ?_)
    have n1 : w1.cell? ⟨W.heap.size, 1, none⟩ = some (.slice none 0 0) := (blk_cell HP9.out 1).trans rfl
    have m1 : w1.frozen? ⟨W.heap.size, 1, none⟩ = false := blk_frozen HP9.out 1
    refine skip_ (w1 := ?_) (by rfl) rfl ?_ ?_
    rotate_left
    · go_simp
      rfl
    refine hK.out _ _ ?_
    clear hK K
    refine done_ (by kernel_rfl) ?_
    have HPX := Lib.hid (blk_set HP9.out 1 (.slice (some ⟨tb, 0, none⟩) 1 c))
    have HRX := Lib.hid (blk_far HR9.out (p := ⟨W.heap.size, 1, none⟩) (by show _ ≠ W.heap.size; omega) (.slice (some ⟨tb, 0, none⟩) 1 c))
    have HTX := Lib.hid (Tms.far (W := w1) (lo := W.heap.size) (on := true) ⟨tb, c, r, rfl, hc, hlo, HWB.out⟩ HP9.out (by decide) 1 (.slice (some ⟨tb, 0, none⟩) 1 c))
    have HBX := Lib.hid (HB9.out.setCell (p := ⟨W.heap.size, 1, none⟩) (Nat.le_refl _) (.slice (some ⟨tb, 0, none⟩) 1 c))
    clear n1 m1 HP9 HW9 HR9 HB9 HWB hHeld
    generalize w1.setCell ⟨W.heap.size, 1, none⟩ (.slice (some ⟨tb, 0, none⟩) 1 c) = WX at *
    have p0 : WX.cell? ⟨W.heap.size, 0, none⟩ = some (.string ⟨#[120]⟩) := (blk_cell HPX.out 0).trans rfl
    have p1 : WX.cell? ⟨W.heap.size, 1, none⟩ = some (.slice (some ⟨tb, 0, none⟩) 1 c) := (blk_cell HPX.out 1).trans rfl
    have z0 : WX.cell? ⟨W.heap.size + 1 + 1, 0, none⟩ = some (.string ⟨#[]⟩) := (blk_cell HRX.out 0).trans rfl
    have fz0 : WX.frozen? ⟨W.heap.size + 1 + 1, 0, none⟩ = false := blk_frozen HRX.out 0
    have z1 : WX.cell? ⟨W.heap.size + 1 + 1, 1, none⟩ = some (.slice none 0 0) := (blk_cell HRX.out 1).trans rfl
    have fz1 : WX.frozen? ⟨W.heap.size + 1 + 1, 1, none⟩ = false := blk_frozen HRX.out 1
    go_wp2_with fail
    refine bodyPost_ret (results_ct rfl _ _ (W.heap.size + 1 + 1) 39 #[.string ⟨#[120]⟩, .slice (some ⟨tb, 0, none⟩) 1 c] (0, 0) _ rfl (blk_set (blk_set HRX.out 0 _) 1 _) Tryz.underlying39 rfl (by kernel_rfl)) rfl ?_
    refine ⟨.slice (some ⟨tb, 0, none⟩) 1 c, rfl, ?_, ?_⟩
    · exact Tms.far (Tms.far HTX.out HRX.out (by decide) 0 _) (blk_set HRX.out 0 _) (by decide) 1 _
    · exact (HBX.out.setCell (p := ⟨W.heap.size + 1 + 1, 0, none⟩) (by show W.heap.size ≤ W.heap.size + 1 + 1; omega) _).setCell (p := ⟨W.heap.size + 1 + 1, 1, none⟩) (by show W.heap.size ≤ W.heap.size + 1 + 1; omega) _
  · refine value_ (w1 := ?_) (v := ?_) (by rfl) rfl ?_ ?_
    rotate_left 2
    · go_simp
      constructor
      · rfl
      · rfl
    refine hK.out _ _ ⟨(blk_cell (blk_alloc HP6.out _) 1).trans rfl, (blk_cell (blk_alloc HW6.out _) 0).trans rfl, (blk_cell (blk_alloc HW6.out _) 1).trans rfl, (blk_cell (blk_alloc HW6.out _) 2).trans rfl, (blk_cell (blk_alloc HW6.out _) 3).trans rfl⟩ (fun hHeld => ?_)
    clear hK K
    refine norm_ (a' := ?_) ?_ ?_
    rotate_left
    · show Act.put _ (some 15) _ = _
      simp only [Act.put, List.setIfInBounds_toArray, List.set_cons_zero, List.set_cons_succ]
      rfl
    refine one_ (i := 2) (N := some 13) #[true, true, true, true, true, false, false, false] rfl rfl (by kernel_rfl) (by decide) (fun K hK => ?_)
    refine goes_ Tryz.func66 (by kernel_rfl) rfl #[.slice none 0 0] (by rfl) rfl rfl (by simp only [List.map_toArray, List.map_cons, List.map_nil]; rfl) ?_
    refine (WClone.nilWhen _).mono ?_
    rintro e W6 ⟨rfl, rfl⟩
    refine ⟨_, rfl, ?_⟩
    refine hK.out _ _ hHeld (fun hHeld => ?_)
    clear hK K
    refine norm_ (a' := ?_) ?_ ?_
    rotate_left
    · show Act.put _ (some 13) _ = _
      simp only [Act.put, List.setIfInBounds_toArray, List.set_cons_zero, List.set_cons_succ]
      rfl
    refine one_ (i := 5) (N := some 16) #[true, true, true, true, true, true, false, false] rfl rfl (by kernel_rfl) (by decide) (fun K hK => ?_)
    refine step_append_cells (w0 := W) W.heap.size (by rfl) (.tmp 13) (.tmp 15) 37 25 (.agg #[.int .u32 0, .int .u8 0, .int .i64 0, .int .i64 0]) 4 24 rfl Tryz.underlying37 WClone.infoWhen rfl (by decide) (by decide) (.slice none 0 0) 0 [] [.int .u32 7, .int .u8 1, .int .i64 16, .int .i64 4] rfl rfl rfl (by intro u hu; simp at hu; rcases hu with rfl | rfl | rfl | rfl <;> rfl) ⟨rfl, .inl ⟨rfl, rfl⟩⟩ HB6.out HB6.out.size (by decide) ?_
    intro v1 w1 hown hb1 hgrow hat
    have hg : Below W6.heap.size W6 w1 := (Below.refl W6.heap.size W6).grown hgrow (Nat.le_refl _) (by intro k hk; simp [Value.ownBlock] at hk)
    have HP9 := Lib.hid (blk_below HP6.out hg)
    have HW9 := Lib.hid (blk_below HW6.out hg)
    have HR9 := Lib.hid (blk_below HR6.out hg)
    obtain ⟨tb, c, r, rfl, hc, hlo, hwb⟩ := tms_of hown
    have HWB := Lib.hid hwb
    have HB9 := Lib.hid hb1
    clear hown hb1 hgrow hat hg hwb
    refine hK.out _ _ ⟨(blk_cell HP9.out 1).trans rfl, (blk_cell HW9.out 0).trans rfl, (blk_cell HW9.out 1).trans rfl, (blk_cell HW9.out 2).trans rfl, (blk_cell HW9.out 3).trans rfl⟩ (fun hHeld => ?_)
    clear hK K
    refine norm_ (a' := ?_) ?_ ?_
    rotate_left
    · show Act.put _ (some 16) _ = _
      simp only [Act.put, List.setIfInBounds_toArray, List.set_cons_zero, List.set_cons_succ]
      rfl
    refine pure_ (i := 6) (N := some 17) (v := ?_) (a' := ?_) #[true, true, true, true, true, true, true, false] rfl rfl (by kernel_rfl) (fun _ _ _ h => h) (Or.inl ⟨by rfl, ?_⟩) ?_ ?_
    rotate_left
    · intro w'
      go_simp
      with_reducible rfl
    rotate_left
    · simp only [Act.put, List.setIfInBounds_toArray, List.set_cons_zero, List.set_cons_succ, i64_w, i32_w]
      rfl
    refine last_ (i := 7) (N := none) #[true, true, true, true, true, true, true, true] rfl rfl (by kernel_rfl) (by decide) (fun K hK => ?_)
    have n1 : w1.cell? ⟨W.heap.size, 1, none⟩ = some (.slice none 0 0) := (blk_cell HP9.out 1).trans rfl
    have m1 : w1.frozen? ⟨W.heap.size, 1, none⟩ = false := blk_frozen HP9.out 1
    refine skip_ (w1 := ?_) (by rfl) rfl ?_ ?_
    rotate_left
    · go_simp
      rfl
    refine hK.out _ _ ?_
    clear hK K
    refine done_ (by kernel_rfl) ?_
    have HPX := Lib.hid (blk_set HP9.out 1 (.slice (some ⟨tb, 0, none⟩) 1 c))
    have HRX := Lib.hid (blk_far HR9.out (p := ⟨W.heap.size, 1, none⟩) (by show _ ≠ W.heap.size; omega) (.slice (some ⟨tb, 0, none⟩) 1 c))
    have HTX := Lib.hid (Tms.far (W := w1) (lo := W.heap.size) (on := true) ⟨tb, c, r, rfl, hc, hlo, HWB.out⟩ HP9.out (by decide) 1 (.slice (some ⟨tb, 0, none⟩) 1 c))
    have HBX := Lib.hid (HB9.out.setCell (p := ⟨W.heap.size, 1, none⟩) (Nat.le_refl _) (.slice (some ⟨tb, 0, none⟩) 1 c))
    clear n1 m1 HP9 HW9 HR9 HB9 HWB hHeld
    generalize w1.setCell ⟨W.heap.size, 1, none⟩ (.slice (some ⟨tb, 0, none⟩) 1 c) = WX at *
    have p0 : WX.cell? ⟨W.heap.size, 0, none⟩ = some (.string ⟨#[120]⟩) := (blk_cell HPX.out 0).trans rfl
    have p1 : WX.cell? ⟨W.heap.size, 1, none⟩ = some (.slice (some ⟨tb, 0, none⟩) 1 c) := (blk_cell HPX.out 1).trans rfl
    have z0 : WX.cell? ⟨W.heap.size + 1 + 1, 0, none⟩ = some (.string ⟨#[]⟩) := (blk_cell HRX.out 0).trans rfl
    have fz0 : WX.frozen? ⟨W.heap.size + 1 + 1, 0, none⟩ = false := blk_frozen HRX.out 0
    have z1 : WX.cell? ⟨W.heap.size + 1 + 1, 1, none⟩ = some (.slice none 0 0) := (blk_cell HRX.out 1).trans rfl
    have fz1 : WX.frozen? ⟨W.heap.size + 1 + 1, 1, none⟩ = false := blk_frozen HRX.out 1
    go_wp2_with fail
    refine bodyPost_ret (results_ct rfl _ _ (W.heap.size + 1 + 1) 39 #[.string ⟨#[120]⟩, .slice (some ⟨tb, 0, none⟩) 1 c] (0, 0) _ rfl (blk_set (blk_set HRX.out 0 _) 1 _) Tryz.underlying39 rfl (by kernel_rfl)) rfl ?_
    refine ⟨.slice (some ⟨tb, 0, none⟩) 1 c, rfl, ?_, ?_⟩
    · exact Tms.far (Tms.far HTX.out HRX.out (by decide) 0 _) (blk_set HRX.out 0 _) (by decide) 1 _
    · exact (HBX.out.setCell (p := ⟨W.heap.size + 1 + 1, 0, none⟩) (by show W.heap.size ≤ W.heap.size + 1 + 1; omega) _).setCell (p := ⟨W.heap.size + 1 + 1, 1, none⟩) (by show W.heap.size ≤ W.heap.size + 1 + 1; omega) _
end Go.Proofs.YtklgecdklngekaaGreatDoor.WLeave
