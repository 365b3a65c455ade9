/- slices.Concat of two rows of nothing; person.Return of the example's time -/
import Derived.Test.YtklgecdklngekaaGreatDoorWIx
import Derived.Test.YtklgecdklngekaaGreatDoorWClone
namespace Go.Proofs.YtklgecdklngekaaGreatDoor.WReturn
set_option linter.unusedVariables false
set_option linter.unusedSimpArgs false
open Go.RowKit Go.Proofs.YtklgecdklngekaaGreatDoorW.PrintWords Go.Proofs.YtklgecdklngekaaGreatDoorW.PrintLast Go.Proofs.YtklgecdklngekaaGreatDoor.Q Go.Proofs.YtklgecdklngekaaGreatDoor.WPers Go.Proofs.YtklgecdklngekaaGreatDoor.WExm Go.Proofs.YtklgecdklngekaaGreatDoor.WIx
theorem grow0 (W : World) : Calls Tryz.prog 167 #[.slice none 0 0, .int .i64 0] W fun e w' => e = .returned (.slice none 0 0) ∧ w' = W := by
  go_enter Tryz.func167, Tryz.ntmps167
  go_wp2
  go_ret
  exact ⟨rfl, rfl⟩
set_option maxHeartbeats 4000000 in
set_option maxRecDepth 100000 in
theorem concat0 (sb c c1 c2 : Nat) (a1 a2 : Addr) (W : World) (hs : W.heap[sb]? = some (.cells #[.slice (some a1) 0 c1, .slice (some a2) 0 c2] 37 (0, 0))) :
    Calls Tryz.prog 151 #[.slice (some ⟨sb, 0, none⟩) 2 c] W fun e w' => e = .returned (.slice none 0 0) ∧ Below W.heap.size W w' := by
  have HS := Lib.hid hs
  have c0 : W.cell? ⟨sb, 0, none⟩ = some (.slice (some a1) 0 c1) := (blk_cell hs 0).trans rfl
  have c1' : W.cell? ⟨sb, 1, none⟩ = some (.slice (some a2) 0 c2) := (blk_cell hs 1).trans rfl
  clear hs
  obtain ⟨i0, hi, hz0, hz1, hz2⟩ := info_parts WClone.infoWhen
  go_enter Tryz.func151, Tryz.ntmps151
  go_wp2
  go_loop [3, 11] (fun s v => ∃ i : Nat, i ≤ 2 ∧ s = .int .i64 0 ∧ v = .int .i64 (i : Int)) (fun _ v => 2 - (intOf v).toNat)
  case atStart => exact ⟨0, by omega, rfl, rfl⟩
  case round =>
    obtain ⟨i, hi2, rfl, rfl⟩ := hrel
    rcases (by omega : i = 0 ∨ i = 1 ∨ i = 2) with rfl | rfl | rfl
    · go_wp2
      go_round
      case rel => exact ⟨1, by omega, rfl, rfl⟩
      case measure => simp [intOf]
    · go_wp2
      go_round
      case rel => exact ⟨2, by omega, rfl, rfl⟩
      case measure => simp [intOf]
    · go_wp2_with (go_at_call 167; refine (grow0 _).mono ?_; rintro e W ⟨rfl, rfl⟩)
      go_loopw [6, 27] (fun s v wr => ∃ i : Nat, i ≤ 2 ∧ s = .slice none 0 0 ∧ v = .int .i64 (i : Int) ∧ Hid (Below W.heap.size W wr)) (fun _ v _ => 2 - (intOf v).toNat)
      case atStart => exact ⟨0, by omega, rfl, rfl, Below.refl _ _⟩
      case round =>
        obtain ⟨i, hi2, rfl, rfl, HB⟩ := hrel
        clear c0 c1'
        have c0 : wr.cell? ⟨sb, 0, none⟩ = some (.slice (some a1) 0 c1) := (blk_cell (blk_below HS.out HB.out) 0).trans rfl
        have c1' : wr.cell? ⟨sb, 1, none⟩ = some (.slice (some a2) 0 c2) := (blk_cell (blk_below HS.out HB.out) 1).trans rfl
        have hle := HB.out.size
        rcases (by omega : i = 0 ∨ i = 1 ∨ i = 2) with rfl | rfl | rfl
        · go_wp2_with (at_builtin; refine wpList_append_own _ rfl (.tmp 31) (.tmp 32) 37 rfl wr.heap.size 25 i0 (.agg #[.int .u32 0, .int .u8 0, .int .i64 0, .int .i64 0]) 4 24 Tryz.underlying37 hi hz0 hz1 hz2 rfl (by decide) (.slice none 0 0) 0 [] rfl ⟨rfl, .inl ⟨rfl, rfl⟩⟩ a1 0 c1 [] rfl rfl (by intro j u hu; simp at hu) (by intro u hu; simp at hu) (by unfold maxLen; omega) (by omega) (Nat.le_refl _) ?_)
          intro v' w1 hown hgrow hnil
          obtain rfl : v' = .slice none 0 0 := by simpa using hnil
          have HB1 := Lib.hid (below_step HB.out ((Below.refl wr.heap.size wr).grown hgrow (Nat.le_refl _) (by intro k hk; simp [Value.ownBlock] at hk)))
          clear hown hgrow hnil c0 c1' hle
          go_wp2
          go_roundw
          case rel => exact ⟨1, by omega, rfl, rfl, HB1.out⟩
          case measure => simp [intOf]
        · go_wp2_with (at_builtin; refine wpList_append_own _ rfl (.tmp 31) (.tmp 32) 37 rfl wr.heap.size 25 i0 (.agg #[.int .u32 0, .int .u8 0, .int .i64 0, .int .i64 0]) 4 24 Tryz.underlying37 hi hz0 hz1 hz2 rfl (by decide) (.slice none 0 0) 0 [] rfl ⟨rfl, .inl ⟨rfl, rfl⟩⟩ a2 0 c2 [] rfl rfl (by intro j u hu; simp at hu) (by intro u hu; simp at hu) (by unfold maxLen; omega) (by omega) (Nat.le_refl _) ?_)
          intro v' w1 hown hgrow hnil
          obtain rfl : v' = .slice none 0 0 := by simpa using hnil
          have HB1 := Lib.hid (below_step HB.out ((Below.refl wr.heap.size wr).grown hgrow (Nat.le_refl _) (by intro k hk; simp [Value.ownBlock] at hk)))
          clear hown hgrow hnil c0 c1' hle
          go_wp2
          go_roundw
          case rel => exact ⟨2, by omega, rfl, rfl, HB1.out⟩
          case measure => simp [intOf]
        · go_wp2
          go_ret
          exact ⟨rfl, HB.out⟩
set_option maxHeartbeats 4000000 in
set_option maxRecDepth 100000 in
theorem return1 (W : World) (tb c : Nat) (hc : 1 ≤ c) (r : Array Value) (hw : WB W tb r) :
    Calls Tryz.prog 125 #[.agg #[.string ⟨#[120]⟩, .slice (some ⟨tb, 0, none⟩) 1 c], wh] W fun e w' => e = .returned (.tuple #[.agg #[.string ⟨#[120]⟩, .slice none 0 0], .int .i64 0]) ∧ Below W.heap.size W w' := by
  have HWB := Lib.hid hw
  clear hw
  have hci : (1 : Int) ≤ c := by omega
  have hu_0 := Tryz.underlying39
  have hu_1 := Tryz.underlying25
  unfold wh
  go_enter Tryz.func125, Tryz.ntmps125
  go_wp2_with fail
  have HB0 := Lib.hid (blk_alloc (blk_alloc (blk_new W (.cells #[.string ⟨#[120]⟩, .slice (some ⟨tb, 0, none⟩) 1 c] 39)) (.cells #[.int .u32 7, .int .u8 1, .int .i64 16, .int .i64 4] 25)) (.cells #[.string ⟨#[]⟩, .slice none 0 0] 39))
  have hn1 := blk_new (W.alloc (.cells #[.string ⟨#[120]⟩, .slice (some ⟨tb, 0, none⟩) 1 c] 39)) (.cells #[.int .u32 7, .int .u8 1, .int .i64 16, .int .i64 4] 25)
  rw [World.size_alloc] at hn1
  have HB1 := Lib.hid (blk_alloc (hn1) (.cells #[.string ⟨#[]⟩, .slice none 0 0] 39))
  clear hn1
  have hn2 := blk_new ((W.alloc (.cells #[.string ⟨#[120]⟩, .slice (some ⟨tb, 0, none⟩) 1 c] 39)).alloc (.cells #[.int .u32 7, .int .u8 1, .int .i64 16, .int .i64 4] 25)) (.cells #[.string ⟨#[]⟩, .slice none 0 0] 39)
  rw [World.size_alloc, World.size_alloc] at hn2
  have HB2 := Lib.hid (hn2)
  clear hn2
  have HBW := Lib.hid (below_alloc (below_alloc (below_alloc (Below.refl W.heap.size W) (.cells #[.string ⟨#[120]⟩, .slice (some ⟨tb, 0, none⟩) 1 c] 39)) (.cells #[.int .u32 7, .int .u8 1, .int .i64 16, .int .i64 4] 25)) (.cells #[.string ⟨#[]⟩, .slice none 0 0] 39))
  generalize ((W.alloc (.cells #[.string ⟨#[120]⟩, .slice (some ⟨tb, 0, none⟩) 1 c] 39)).alloc (.cells #[.int .u32 7, .int .u8 1, .int .i64 16, .int .i64 4] 25)).alloc (.cells #[.string ⟨#[]⟩, .slice none 0 0] 39) = W1 at *
  refine (index1 tb c r W1 (HWB.out.below HBW.out)).mono ?_
  rintro e W2 ⟨rfl, hb⟩
  have HP2 := Lib.hid (blk_below HB0.out hb)
  have HR2 := Lib.hid (blk_below HB2.out hb)
  have HBX := Lib.hid (below_step HBW.out hb)
  clear hb HB0 HB1 HB2 HBW HWB
  go_wp2_with fail
  have hbd : Below W2.heap.size W2 W2.drew := (Below.refl _ _).drew
  have HP6 := Lib.hid (blk_below HP2.out hbd)
  have HR6 := Lib.hid (blk_below HR2.out hbd)
  have HB6 := Lib.hid (below_step HBX.out hbd)
  clear hbd HP2 HR2 HBX
  obtain ⟨a2, ha2⟩ : ∃ a2 : Addr, (if c = 1 then some (⟨tb, 0, none⟩ : Addr) else some ⟨tb, 4, none⟩) = some a2 := by split <;> exact ⟨_, rfl⟩
  refine start_ (n := 13) (S := fun w' => w'.cell? ⟨W.heap.size, 1, none⟩ = some (.slice (some ⟨tb, 0, none⟩) 1 c)) (ds := [12]) #[false, false, false, false, false, false, false, false, false, false, false, false, false] (by kernel_rfl) rfl rfl ((blk_cell HP6.out 1).trans rfl) (fun hHeld => ?_)
  generalize W2.drew = W6 at *
  refine pure_ (i := 0) (N := some 14) (v := ?_) (a' := ?_) #[true, false, false, false, false, false, false, false, false, false, false, false, false] rfl rfl (by kernel_rfl) (fun _ _ _ h => h) (Or.inl ⟨by rfl, ?_⟩) ?_ ?_
  rotate_left
  · intro w'
    go_simp
    with_reducible rfl
  rotate_left
  · simp only [Act.put, List.setIfInBounds_toArray, List.set_cons_zero, List.set_cons_succ, i64_w, i32_w]
    rfl
  refine take_ (i := 1) (N := some 15) (v := ?_) (a' := ?_) #[true, true, false, false, false, false, false, false, false, false, false, false, false] rfl rfl (by kernel_rfl) (fun _ _ _ h => h) (Or.inl ⟨by rfl, ?_⟩) hHeld ?_ ?_
  rotate_left
  · rintro w' s0
    go_simp
    with_reducible rfl
  rotate_left
  · simp only [Act.put, List.setIfInBounds_toArray, List.set_cons_zero, List.set_cons_succ, i64_w, i32_w]
    rfl
  refine pure_ (i := 2) (N := some 16) (v := ?_) (a' := ?_) #[true, true, true, false, false, false, false, false, false, false, false, false, false] rfl rfl (by kernel_rfl) (fun _ _ _ h => h) (Or.inl ⟨by rfl, ?_⟩) ?_ ?_
  rotate_left
  · intro w'
    go_simp
    with_reducible rfl
  rotate_left
  · simp only [Act.put, List.setIfInBounds_toArray, List.set_cons_zero, List.set_cons_succ, i64_w, i32_w]
    rfl
  refine pure_ (i := 3) (N := some 17) (v := ?_) (a' := ?_) #[true, true, true, true, false, false, false, false, false, false, false, false, false] rfl rfl (by kernel_rfl) (fun _ _ _ h => h) (Or.inl ⟨by rfl, ?_⟩) ?_ ?_
  rotate_left
  · intro w'
    go_simp
    with_reducible rfl
  rotate_left
  · simp only [Act.put, List.setIfInBounds_toArray, List.set_cons_zero, List.set_cons_succ, i64_w, i32_w]
    rfl
  refine pure_ (i := 4) (N := some 18) (v := ?_) (a' := ?_) #[true, true, true, true, true, false, false, false, false, false, false, false, false] rfl rfl (by kernel_rfl) (fun _ _ _ h => h) (Or.inl ⟨by rfl, ?_⟩) ?_ ?_
  rotate_left
  · intro w'
    go_simp
    with_reducible rfl
  rotate_left
  · simp only [Act.put, List.setIfInBounds_toArray, List.set_cons_zero, List.set_cons_succ, i64_w, i32_w]
    rfl
  refine take_ (i := 5) (N := some 19) (v := ?_) (a' := ?_) #[true, true, true, true, true, true, false, false, false, false, false, false, false] rfl rfl (by kernel_rfl) (fun _ _ _ h => h) (Or.inl ⟨by rfl, ?_⟩) hHeld ?_ ?_
  rotate_left
  · rintro w' s0
    go_simp
    with_reducible rfl
  rotate_left
  · simp only [Act.put, List.setIfInBounds_toArray, List.set_cons_zero, List.set_cons_succ, i64_w, i32_w]
    rfl
  refine pure_ (i := 6) (N := some 20) (v := ?_) (a' := ?_) #[true, true, true, true, true, true, true, false, false, false, false, false, false] rfl rfl (by kernel_rfl) (fun _ _ _ h => h) (Or.inl ⟨by rfl, ?_⟩) ?_ ?_
  rotate_left
  · intro w'
    go_simp
    with_reducible rfl
  rotate_left
  · simp only [Act.put, List.setIfInBounds_toArray, List.set_cons_zero, List.set_cons_succ, i64_w, i32_w]
    rfl
  refine pure_ (i := 7) (N := some 21) (v := ?_) (a' := ?_) #[true, true, true, true, true, true, true, true, false, false, false, false, false] rfl rfl (by kernel_rfl) (fun _ _ _ h => h) (Or.inl ⟨by rfl, ?_⟩) ?_ ?_
  rotate_left
  · intro w'
    go_simp
    with_reducible rfl
  rotate_left
  · simp only [Act.put, List.setIfInBounds_toArray, List.set_cons_zero, List.set_cons_succ, i64_w, i32_w]
    rfl
  rw [show Go.RowKit.wrap64 1 = 1 from by unfold Go.RowKit.wrap64; decide]
  refine pure_ (i := 8) (N := some 22) (v := ?_) (a' := ?_) #[true, true, true, true, true, true, true, true, true, false, false, false, false] rfl rfl (by kernel_rfl) (fun _ _ _ h => h) (Or.inl ⟨by rfl, ?_⟩) ?_ ?_
  rotate_left
  · intro w'
    go_simp
    with_reducible rfl
  rotate_left
  · simp only [Act.put, List.setIfInBounds_toArray, List.set_cons_zero, List.set_cons_succ, i64_w, i32_w]
    rfl
  refine one_ (i := 9) (N := some 23) #[true, true, true, true, true, true, true, true, true, true, false, false, false] rfl rfl (by kernel_rfl) (by decide) (fun K hK => ?_)
  refine value_ (w1 := ?_) (v := ?_) (by rfl) rfl ?_ ?_
  rotate_left 2
  · go_simp
    constructor
    · rfl
    · rfl
  refine hK.out _ _ ((blk_cell (blk_alloc HP6.out _) 1).trans rfl) (fun hHeld => ?_)
  clear hK K
  refine norm_ (a' := ?_) ?_ ?_
  rotate_left
  · show Act.put _ (some 23) _ = _
    simp only [Act.put, List.setIfInBounds_toArray, List.set_cons_zero, List.set_cons_succ, i64_w, i32_w]
    rfl
  have HS8 := Lib.hid (blk_new W6 (.cells #[.slice (some ⟨tb, 0, none⟩) 0 c, .slice (some a2) 0 (c - 1)] 37))
  have HP8 := Lib.hid (blk_alloc HP6.out (.cells #[.slice (some ⟨tb, 0, none⟩) 0 c, .slice (some a2) 0 (c - 1)] 37))
  have HR8 := Lib.hid (blk_alloc HR6.out (.cells #[.slice (some ⟨tb, 0, none⟩) 0 c, .slice (some a2) 0 (c - 1)] 37))
  have HB8 := Lib.hid (below_alloc HB6.out (.cells #[.slice (some ⟨tb, 0, none⟩) 0 c, .slice (some a2) 0 (c - 1)] 37))
  clear HP6 HR6 HB6
  generalize W6.alloc (.cells #[.slice (some ⟨tb, 0, none⟩) 0 c, .slice (some a2) 0 (c - 1)] 37) = W8 at *
  generalize W6.heap.size = sb at *
  refine one_ (i := 10) (N := some 24) #[true, true, true, true, true, true, true, true, true, true, true, false, false] rfl rfl (by kernel_rfl) (by decide) (fun K hK => ?_)
  refine goes_ Tryz.func151 (by kernel_rfl) rfl #[.slice (some ⟨sb, 0, none⟩) 2 2] (by rfl) rfl rfl (by simp only [List.map_toArray, List.map_cons, List.map_nil]; rfl) ?_
  refine (concat0 sb 2 c (c - 1) ⟨tb, 0, none⟩ a2 W8 HS8.out).mono ?_
  rintro e W9 ⟨rfl, hb9⟩
  refine ⟨_, rfl, ?_⟩
  have HP9 := Lib.hid (blk_below HP8.out hb9)
  have HR9 := Lib.hid (blk_below HR8.out hb9)
  have HB9 := Lib.hid (below_step HB8.out hb9)
  clear hb9 HS8 HP8 HR8 HB8
  refine hK.out _ _ ((blk_cell HP9.out 1).trans rfl) (fun hHeld => ?_)
  clear hK K
  refine norm_ (a' := ?_) ?_ ?_
  rotate_left
  · show Act.put _ (some 24) _ = _
    simp only [Act.put, List.setIfInBounds_toArray, List.set_cons_zero, List.set_cons_succ, i64_w, i32_w]
    rfl
  refine pure_ (i := 11) (N := some 25) (v := ?_) (a' := ?_) #[true, true, true, true, true, true, true, true, true, true, true, true, false] rfl rfl (by kernel_rfl) (fun _ _ _ h => h) (Or.inl ⟨by rfl, ?_⟩) ?_ ?_
  rotate_left
  · intro w'
    go_simp
    with_reducible rfl
  rotate_left
  · simp only [Act.put, List.setIfInBounds_toArray, List.set_cons_zero, List.set_cons_succ, i64_w, i32_w]
    rfl
  refine last_ (i := 12) (N := none) #[true, true, true, true, true, true, true, true, true, true, true, true, true] rfl rfl (by kernel_rfl) (by decide) (fun K hK => ?_)
  have n1 : W9.cell? ⟨W.heap.size, 1, none⟩ = some (.slice (some ⟨tb, 0, none⟩) 1 c) := (blk_cell HP9.out 1).trans rfl
  have m1 : W9.frozen? ⟨W.heap.size, 1, none⟩ = false := blk_frozen HP9.out 1
  refine skip_ (w1 := ?_) (by rfl) rfl ?_ ?_
  rotate_left
  · go_simp
    rfl
  refine hK.out _ _ ?_
  clear hK K
  refine done_ (by kernel_rfl) ?_
  have HPX := Lib.hid (blk_set HP9.out 1 (.slice none 0 0))
  have HRX := Lib.hid (blk_far HR9.out (p := ⟨W.heap.size, 1, none⟩) (by show _ ≠ W.heap.size; omega) (.slice none 0 0))
  have HBX := Lib.hid (HB9.out.setCell (p := ⟨W.heap.size, 1, none⟩) (Nat.le_refl _) (.slice none 0 0))
  clear n1 m1 HP9 HR9 HB9 hHeld
  generalize W9.setCell ⟨W.heap.size, 1, none⟩ (.slice none 0 0) = WX at *
  have p0 : WX.cell? ⟨W.heap.size, 0, none⟩ = some (.string ⟨#[120]⟩) := (blk_cell HPX.out 0).trans rfl
  have p1 : WX.cell? ⟨W.heap.size, 1, none⟩ = some (.slice none 0 0) := (blk_cell HPX.out 1).trans rfl
  have z0 : WX.cell? ⟨W.heap.size + 1 + 1, 0, none⟩ = some (.string ⟨#[]⟩) := (blk_cell HRX.out 0).trans rfl
  have fz0 : WX.frozen? ⟨W.heap.size + 1 + 1, 0, none⟩ = false := blk_frozen HRX.out 0
  have z1 : WX.cell? ⟨W.heap.size + 1 + 1, 1, none⟩ = some (.slice none 0 0) := (blk_cell HRX.out 1).trans rfl
  have fz1 : WX.frozen? ⟨W.heap.size + 1 + 1, 1, none⟩ = false := blk_frozen HRX.out 1
  go_wp2_with fail
  refine bodyPost_ret (results_ct rfl _ _ (W.heap.size + 1 + 1) 39 #[.string ⟨#[120]⟩, .slice none 0 0] (0, 0) _ rfl (blk_set (blk_set HRX.out 0 _) 1 _) Tryz.underlying39 rfl (by kernel_rfl)) rfl ?_
  exact ⟨rfl, (HBX.out.setCell (p := ⟨W.heap.size + 1 + 1, 0, none⟩) (by show W.heap.size ≤ W.heap.size + 1 + 1; omega) _).setCell (p := ⟨W.heap.size + 1 + 1, 1, none⟩) (by show W.heap.size ≤ W.heap.size + 1 + 1; omega) _⟩
end Go.Proofs.YtklgecdklngekaaGreatDoor.WReturn
