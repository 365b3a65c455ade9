/- horariumref17.Same of two of the example's problems whose person has no times -/
import Derived.Test.YtklgecdklngekaaGreatDoorWExm
import Derived.Test.YtklgecdklngekaaGreatDoorQx1
namespace Go.Proofs.YtklgecdklngekaaGreatDoor.WSame
set_option linter.unusedVariables false
set_option linter.unusedSimpArgs false
open Go.RowKit Go.Proofs.YtklgecdklngekaaGreatDoorW.PrintWords Go.Proofs.YtklgecdklngekaaGreatDoorW.PrintLast Go.Proofs.YtklgecdklngekaaGreatDoor.Q Go.Proofs.YtklgecdklngekaaGreatDoor.WPers Go.Proofs.YtklgecdklngekaaGreatDoor.WExm
theorem eqA36 (d : Nat) (w : World) (x0 y0 : Int) (x1 y1 : Int) (x2 y2 : Int) :
    (Op.equalIn (d + 2) 36 (.agg #[.int .i64 x0, .int .i64 x1, .int .i64 x2]) (.agg #[.int .i64 y0, .int .i64 y1, .int .i64 y2])).run Tryz.prog w = .ok (x0 == y0 && (x1 == y1 && (x2 == y2))) w := by
  refine eqA_of Tryz.underlying36 (by kernel_rfl) ?_
  refine eqf_cons (by rfl) (by go_simp; rfl) (by go_simp; rfl) (by go_simp) ?_
  refine eqf_cons (by rfl) (by go_simp; rfl) (by go_simp; rfl) (by go_simp) ?_
  exact eqf_last (by rfl) (by go_simp; rfl) (by go_simp; rfl) (by go_simp)
theorem eqA48 (d : Nat) (w : World) (x0 y0 : Int) (x1 y1 : Int) (x2 y2 : Int) (x3 y3 : Int) :
    (Op.equalIn (d + 2) 48 (.agg #[.int .i64 x0, .int .i64 x1, .int .i64 x2, .int .i64 x3]) (.agg #[.int .i64 y0, .int .i64 y1, .int .i64 y2, .int .i64 y3])).run Tryz.prog w = .ok (x0 == y0 && (x1 == y1 && (x2 == y2 && (x3 == y3)))) w := by
  refine eqA_of Tryz.underlying48 (by kernel_rfl) ?_
  refine eqf_cons (by rfl) (by go_simp; rfl) (by go_simp; rfl) (by go_simp) ?_
  refine eqf_cons (by rfl) (by go_simp; rfl) (by go_simp; rfl) (by go_simp) ?_
  refine eqf_cons (by rfl) (by go_simp; rfl) (by go_simp; rfl) (by go_simp) ?_
  exact eqf_last (by rfl) (by go_simp; rfl) (by go_simp; rfl) (by go_simp)
attribute [local go_sem high] eqA36 eqA48
theorem rowsT (W : World) : Calls Tryz.prog 39 #[.slice none 0 0, .slice none 0 0] W fun e w' => e = .returned (.bool true) ∧ w' = W := by
  go_enter Tryz.func39, Tryz.ntmps39
  go_wp2
  go_loop [5] (fun v => v = .int .i64 0) (fun _ => 0)
  case atStart => exact rfl
  case round =>
    obtain rfl := hrel
    go_wp2
    go_ret
    exact ⟨rfl, rfl⟩
theorem rowsW (W : World) : Calls Tryz.prog 81 #[.slice none 0 0, .slice none 0 0] W fun e w' => e = .returned (.bool true) ∧ w' = W := by
  go_enter Tryz.func81, Tryz.ntmps81
  go_wp2
  go_loop [5] (fun v => v = .int .i64 0) (fun _ => 0)
  case atStart => exact rfl
  case round =>
    obtain rfl := hrel
    go_wp2
    go_ret
    exact ⟨rfl, rfl⟩
theorem sameP (W : World) : Calls Tryz.prog 41 #[.agg #[.string ⟨#[120]⟩, .slice none 0 0], .agg #[.string ⟨#[120]⟩, .slice none 0 0]] W fun e w' => e = .returned (.bool true) ∧ Below W.heap.size W w' := by
  have hu39 := Tryz.underlying39
  go_enter Tryz.func41, Tryz.ntmps41
  go_wp2_with (go_at_call 81; refine (rowsW _).mono ?_; rintro e w' ⟨rfl, rfl⟩)
  go_ret
  exact ⟨rfl, below_alloc (below_alloc (Below.refl _ _) _) _⟩
structure Two (W : World) (g h pb c nb c2 : Nat) (r r2 : List Value) : Prop where
  g : W.heap[g]? = some (.cells #[.string ⟨#[112]⟩, .int .i64 4, .int .i64 5, .int .i64 40, .slice none 0 0, .slice none 0 0, .slice (some ⟨pb, 0, none⟩) 1 c, .slice none 0 0, .slice none 0 0, .slice none 0 0, .slice none 0 0, .int .i64 0, .int .i64 0, .int .i64 0, .int .i64 0] 50 (0, 0))
  h : W.heap[h]? = some (.cells #[.string ⟨#[112]⟩, .int .i64 4, .int .i64 5, .int .i64 40, .slice none 0 0, .slice none 0 0, .slice (some ⟨nb, 0, none⟩) 1 c2, .slice none 0 0, .slice none 0 0, .slice none 0 0, .slice none 0 0, .int .i64 0, .int .i64 0, .int .i64 0, .int .i64 0] 50 (0, 0))
  p : W.heap[pb]? = some (.cells (([.string ⟨#[120]⟩, .slice none 0 0] : List Value) ++ r).toArray 39 (0, 0))
  n : W.heap[nb]? = some (.cells (([.string ⟨#[120]⟩, .slice none 0 0] : List Value) ++ r2).toArray 39 (0, 0))
theorem Two.below {W W1 : World} {g h pb c nb c2 : Nat} {r r2 : List Value} (k : Two W g h pb c nb c2 r r2) (hb : Below W.heap.size W W1) : Two W1 g h pb c nb c2 r r2 := ⟨blk_below k.g hb, blk_below k.h hb, blk_below k.p hb, blk_below k.n hb⟩
set_option maxHeartbeats 8000000 in
set_option maxRecDepth 100000 in
theorem same_c (W : World) (lo lo2 : Nat) (v v2 : Value) (h1 : Per W lo false v) (h2 : Per W lo2 false v2) :
    Calls Tryz.prog 14 #[prob v, prob v2] W fun e w' => e = .returned (.bool true) ∧ Below W.heap.size W w' := by
  obtain ⟨pb, c, a, rest, rfl, hc, _, hpb, hta⟩ := h1
  obtain rfl : a = .slice none 0 0 := hta
  obtain ⟨nb, c2, a2, rest2, rfl, hc2, _, hnb, hta2⟩ := h2
  obtain rfl : a2 = .slice none 0 0 := hta2
  have HP := Lib.hid hpb
  have HN := Lib.hid hnb
  clear hpb hnb
  have hc1i : (1 : Int) ≤ c := by omega
  have hc2i : (1 : Int) ≤ c2 := by omega
  unfold prob
  have hu_0 := Tryz.underlying50
  have hu_1 := Tryz.underlying39
  go_enter Tryz.func14, Tryz.ntmps14
  go_wp2_with fail
  have HB0 := Lib.hid (blk_alloc (blk_new W (.cells #[.string ⟨#[112]⟩, .int .i64 4, .int .i64 5, .int .i64 40, .slice none 0 0, .slice none 0 0, .slice (some ⟨pb, 0, none⟩) 1 c, .slice none 0 0, .slice none 0 0, .slice none 0 0, .slice none 0 0, .int .i64 0, .int .i64 0, .int .i64 0, .int .i64 0] 50)) (.cells #[.string ⟨#[112]⟩, .int .i64 4, .int .i64 5, .int .i64 40, .slice none 0 0, .slice none 0 0, .slice (some ⟨nb, 0, none⟩) 1 c2, .slice none 0 0, .slice none 0 0, .slice none 0 0, .slice none 0 0, .int .i64 0, .int .i64 0, .int .i64 0, .int .i64 0] 50))
  have hn1 := blk_new (W.alloc (.cells #[.string ⟨#[112]⟩, .int .i64 4, .int .i64 5, .int .i64 40, .slice none 0 0, .slice none 0 0, .slice (some ⟨pb, 0, none⟩) 1 c, .slice none 0 0, .slice none 0 0, .slice none 0 0, .slice none 0 0, .int .i64 0, .int .i64 0, .int .i64 0, .int .i64 0] 50)) (.cells #[.string ⟨#[112]⟩, .int .i64 4, .int .i64 5, .int .i64 40, .slice none 0 0, .slice none 0 0, .slice (some ⟨nb, 0, none⟩) 1 c2, .slice none 0 0, .slice none 0 0, .slice none 0 0, .slice none 0 0, .int .i64 0, .int .i64 0, .int .i64 0, .int .i64 0] 50)
  rw [World.size_alloc] at hn1
  have HB1 := Lib.hid (hn1)
  clear hn1
  have HBW := Lib.hid (below_alloc (below_alloc (Below.refl W.heap.size W) (.cells #[.string ⟨#[112]⟩, .int .i64 4, .int .i64 5, .int .i64 40, .slice none 0 0, .slice none 0 0, .slice (some ⟨pb, 0, none⟩) 1 c, .slice none 0 0, .slice none 0 0, .slice none 0 0, .slice none 0 0, .int .i64 0, .int .i64 0, .int .i64 0, .int .i64 0] 50)) (.cells #[.string ⟨#[112]⟩, .int .i64 4, .int .i64 5, .int .i64 40, .slice none 0 0, .slice none 0 0, .slice (some ⟨nb, 0, none⟩) 1 c2, .slice none 0 0, .slice none 0 0, .slice none 0 0, .slice none 0 0, .int .i64 0, .int .i64 0, .int .i64 0, .int .i64 0] 50))
  generalize (W.alloc (.cells #[.string ⟨#[112]⟩, .int .i64 4, .int .i64 5, .int .i64 40, .slice none 0 0, .slice none 0 0, .slice (some ⟨pb, 0, none⟩) 1 c, .slice none 0 0, .slice none 0 0, .slice none 0 0, .slice none 0 0, .int .i64 0, .int .i64 0, .int .i64 0, .int .i64 0] 50)).alloc (.cells #[.string ⟨#[112]⟩, .int .i64 4, .int .i64 5, .int .i64 40, .slice none 0 0, .slice none 0 0, .slice (some ⟨nb, 0, none⟩) 1 c2, .slice none 0 0, .slice none 0 0, .slice none 0 0, .slice none 0 0, .int .i64 0, .int .i64 0, .int .i64 0, .int .i64 0] 50) = W1 at *
  have HT : Hid (Two W1 W.heap.size (W.heap.size + 1) pb c nb c2 rest rest2) := Lib.hid ⟨HB0.out, HB1.out, blk_below HP.out HBW.out, blk_below HN.out HBW.out⟩
  clear HB0 HB1 HP HN
  refine (rowsT W1).mono ?_
  rintro e W1 ⟨rfl, rfl⟩
  have x0 : W1.cell? ⟨W.heap.size, 0, none⟩ = some (.string ⟨#[112]⟩) := (blk_cell HT.out.g 0).trans rfl
  have x1 : W1.cell? ⟨W.heap.size, 1, none⟩ = some (.int .i64 4) := (blk_cell HT.out.g 1).trans rfl
  have x2 : W1.cell? ⟨W.heap.size, 2, none⟩ = some (.int .i64 5) := (blk_cell HT.out.g 2).trans rfl
  have x3 : W1.cell? ⟨W.heap.size, 3, none⟩ = some (.int .i64 40) := (blk_cell HT.out.g 3).trans rfl
  have x4 : W1.cell? ⟨W.heap.size, 4, none⟩ = some (.slice none 0 0) := (blk_cell HT.out.g 4).trans rfl
  have x5 : W1.cell? ⟨W.heap.size, 5, none⟩ = some (.slice none 0 0) := (blk_cell HT.out.g 5).trans rfl
  have x6 : W1.cell? ⟨W.heap.size, 6, none⟩ = some (.slice (some ⟨pb, 0, none⟩) 1 c) := (blk_cell HT.out.g 6).trans rfl
  have x7 : W1.cell? ⟨W.heap.size, 7, none⟩ = some (.slice none 0 0) := (blk_cell HT.out.g 7).trans rfl
  have x8 : W1.cell? ⟨W.heap.size, 8, none⟩ = some (.slice none 0 0) := (blk_cell HT.out.g 8).trans rfl
  have x9 : W1.cell? ⟨W.heap.size, 9, none⟩ = some (.slice none 0 0) := (blk_cell HT.out.g 9).trans rfl
  have x10 : W1.cell? ⟨W.heap.size, 10, none⟩ = some (.slice none 0 0) := (blk_cell HT.out.g 10).trans rfl
  have y0 : W1.cell? ⟨W.heap.size + 1, 0, none⟩ = some (.string ⟨#[112]⟩) := (blk_cell HT.out.h 0).trans rfl
  have y1 : W1.cell? ⟨W.heap.size + 1, 1, none⟩ = some (.int .i64 4) := (blk_cell HT.out.h 1).trans rfl
  have y2 : W1.cell? ⟨W.heap.size + 1, 2, none⟩ = some (.int .i64 5) := (blk_cell HT.out.h 2).trans rfl
  have y3 : W1.cell? ⟨W.heap.size + 1, 3, none⟩ = some (.int .i64 40) := (blk_cell HT.out.h 3).trans rfl
  have y4 : W1.cell? ⟨W.heap.size + 1, 4, none⟩ = some (.slice none 0 0) := (blk_cell HT.out.h 4).trans rfl
  have y5 : W1.cell? ⟨W.heap.size + 1, 5, none⟩ = some (.slice none 0 0) := (blk_cell HT.out.h 5).trans rfl
  have y6 : W1.cell? ⟨W.heap.size + 1, 6, none⟩ = some (.slice (some ⟨nb, 0, none⟩) 1 c2) := (blk_cell HT.out.h 6).trans rfl
  have y7 : W1.cell? ⟨W.heap.size + 1, 7, none⟩ = some (.slice none 0 0) := (blk_cell HT.out.h 7).trans rfl
  have y8 : W1.cell? ⟨W.heap.size + 1, 8, none⟩ = some (.slice none 0 0) := (blk_cell HT.out.h 8).trans rfl
  have y9 : W1.cell? ⟨W.heap.size + 1, 9, none⟩ = some (.slice none 0 0) := (blk_cell HT.out.h 9).trans rfl
  have y10 : W1.cell? ⟨W.heap.size + 1, 10, none⟩ = some (.slice none 0 0) := (blk_cell HT.out.h 10).trans rfl
  go_wp2_with fail
  go_loop [5, 6] (fun s v => s = .bool true ∧ v = .int .i64 0) (fun _ _ => 0)
  case atStart => exact ⟨rfl, rfl⟩
  case round =>
    obtain ⟨rfl, rfl⟩ := hrel
    go_wp2_with fail
    clear x0 y0 x1 y1 x2 y2 x3 y3 x4 y4 x5 y5 x6 y6 x7 y7 x8 y8 x9 y9 x10 y10
    go_loopw [5, 7] (fun s v wr => ∃ i : Nat, i ≤ 1 ∧ s = .bool true ∧ v = .int .i64 (i : Int) ∧ Hid (Two wr W.heap.size (W.heap.size + 1) pb c nb c2 rest rest2) ∧ Hid (Below W.heap.size W wr)) (fun _ v _ => 1 - (intOf v).toNat)
    case atStart => exact ⟨0, by omega, rfl, rfl, HT, HBW⟩
    case round =>
      obtain ⟨i, hi, rfl, rfl, HT2, HB2⟩ := hrel
      clear HT HBW
      have x4 : wr.cell? ⟨W.heap.size, 4, none⟩ = some (.slice none 0 0) := (blk_cell HT2.out.g 4).trans rfl
      have x6 : wr.cell? ⟨W.heap.size, 6, none⟩ = some (.slice (some ⟨pb, 0, none⟩) 1 c) := (blk_cell HT2.out.g 6).trans rfl
      have x7 : wr.cell? ⟨W.heap.size, 7, none⟩ = some (.slice none 0 0) := (blk_cell HT2.out.g 7).trans rfl
      have x8 : wr.cell? ⟨W.heap.size, 8, none⟩ = some (.slice none 0 0) := (blk_cell HT2.out.g 8).trans rfl
      have x9 : wr.cell? ⟨W.heap.size, 9, none⟩ = some (.slice none 0 0) := (blk_cell HT2.out.g 9).trans rfl
      have x10 : wr.cell? ⟨W.heap.size, 10, none⟩ = some (.slice none 0 0) := (blk_cell HT2.out.g 10).trans rfl
      have y4 : wr.cell? ⟨W.heap.size + 1, 4, none⟩ = some (.slice none 0 0) := (blk_cell HT2.out.h 4).trans rfl
      have y6 : wr.cell? ⟨W.heap.size + 1, 6, none⟩ = some (.slice (some ⟨nb, 0, none⟩) 1 c2) := (blk_cell HT2.out.h 6).trans rfl
      have y7 : wr.cell? ⟨W.heap.size + 1, 7, none⟩ = some (.slice none 0 0) := (blk_cell HT2.out.h 7).trans rfl
      have y8 : wr.cell? ⟨W.heap.size + 1, 8, none⟩ = some (.slice none 0 0) := (blk_cell HT2.out.h 8).trans rfl
      have y9 : wr.cell? ⟨W.heap.size + 1, 9, none⟩ = some (.slice none 0 0) := (blk_cell HT2.out.h 9).trans rfl
      have y10 : wr.cell? ⟨W.heap.size + 1, 10, none⟩ = some (.slice none 0 0) := (blk_cell HT2.out.h 10).trans rfl
      rcases (by omega : i = 0 ∨ i = 1) with rfl | rfl
      · go_wp2_with fail
        have hbd : Below wr.heap.size wr wr.drew := (Below.refl _ _).drew
        have HT6 := Lib.hid (HT2.out.below hbd)
        have HB6 := Lib.hid (below_step HB2.out hbd)
        clear hbd HT2 HB2 x4 y4 x6 y6 x7 y7 x8 y8 x9 y9 x10 y10
        refine start_ (n := 15) (S := fun w' => w'.cell? ⟨W.heap.size, 6, none⟩ = some (.slice (some ⟨pb, 0, none⟩) 1 c) ∧ w'.cell? ⟨W.heap.size + 1, 6, none⟩ = some (.slice (some ⟨nb, 0, none⟩) 1 c2) ∧ w'.cell? ⟨pb, 0, none⟩ = some (.string ⟨#[120]⟩) ∧ w'.cell? ⟨pb, 1, none⟩ = some (.slice none 0 0) ∧ w'.cell? ⟨nb, 0, none⟩ = some (.string ⟨#[120]⟩) ∧ w'.cell? ⟨nb, 1, none⟩ = some (.slice none 0 0)) (ds := []) #[false, false, false, false, false, false, false, false, false, false, false, false, false, false, false] (by kernel_rfl) rfl rfl ⟨(blk_cell HT6.out.g 6).trans rfl, (blk_cell HT6.out.h 6).trans rfl, (blk_cell HT6.out.p 0).trans rfl, (blk_cell HT6.out.p 1).trans rfl, (blk_cell HT6.out.n 0).trans rfl, (blk_cell HT6.out.n 1).trans rfl⟩ (fun hHeld => ?_)
        generalize wr.drew = W6 at *
        refine pure_ (i := 0) (N := some 121) (v := ?_) (a' := ?_) #[true, false, false, false, false, false, false, false, false, false, false, false, false, false, false] rfl rfl (by kernel_rfl) (fun _ _ _ h => h) (Or.inl ⟨by rfl, ?_⟩) ?_ ?_
        rotate_left
        · intro w'
          go_simp
          with_reducible rfl
        rotate_left
        · simp only [Act.put, List.setIfInBounds_toArray, List.set_cons_zero, List.set_cons_succ, i64_w, i32_w]
          rfl
        refine pure_ (i := 1) (N := some 122) (v := ?_) (a' := ?_) #[true, true, false, false, false, false, false, false, false, false, false, false, false, false, false] rfl rfl (by kernel_rfl) (fun _ _ _ h => h) (Or.inl ⟨by rfl, ?_⟩) ?_ ?_
        rotate_left
        · intro w'
          go_simp
          with_reducible rfl
        rotate_left
        · simp only [Act.put, List.setIfInBounds_toArray, List.set_cons_zero, List.set_cons_succ, i64_w, i32_w]
          rfl
        refine pure_ (i := 2) (N := some 123) (v := ?_) (a' := ?_) #[true, true, true, false, false, false, false, false, false, false, false, false, false, false, false] rfl rfl (by kernel_rfl) (fun _ _ _ h => h) (Or.inl ⟨by rfl, ?_⟩) ?_ ?_
        rotate_left
        · intro w'
          go_simp
          with_reducible rfl
        rotate_left
        · simp only [Act.put, List.setIfInBounds_toArray, List.set_cons_zero, List.set_cons_succ, i64_w, i32_w]
          rfl
        refine take_ (i := 3) (N := some 124) (v := ?_) (a' := ?_) #[true, true, true, true, false, false, false, false, false, false, false, false, false, false, false] rfl rfl (by kernel_rfl) (fun _ _ _ h => h) (Or.inl ⟨by rfl, ?_⟩) hHeld ?_ ?_
        rotate_left
        · rintro w' ⟨s0, s1, s2, s3, s4, s5⟩
          go_simp
          with_reducible rfl
        rotate_left
        · simp only [Act.put, List.setIfInBounds_toArray, List.set_cons_zero, List.set_cons_succ, i64_w, i32_w]
          rfl
        refine pure_ (i := 4) (N := some 125) (v := ?_) (a' := ?_) #[true, true, true, true, true, false, false, false, false, false, false, false, false, false, false] rfl rfl (by kernel_rfl) (fun _ _ _ h => h) (Or.inl ⟨by rfl, ?_⟩) ?_ ?_
        rotate_left
        · intro w'
          go_simp
          with_reducible rfl
        rotate_left
        · simp only [Act.put, List.setIfInBounds_toArray, List.set_cons_zero, List.set_cons_succ, i64_w, i32_w]
          rfl
        refine pure_ (i := 5) (N := some 126) (v := ?_) (a' := ?_) #[true, true, true, true, true, true, false, false, false, false, false, false, false, false, false] rfl rfl (by kernel_rfl) (fun _ _ _ h => h) (Or.inl ⟨by rfl, ?_⟩) ?_ ?_
        rotate_left
        · intro w'
          go_simp
          with_reducible rfl
        rotate_left
        · simp only [Act.put, List.setIfInBounds_toArray, List.set_cons_zero, List.set_cons_succ, i64_w, i32_w]
          rfl
        refine take_ (i := 6) (N := some 127) (v := ?_) (a' := ?_) #[true, true, true, true, true, true, true, false, false, false, false, false, false, false, false] rfl rfl (by kernel_rfl) (fun _ _ _ h => h) (Or.inl ⟨by rfl, ?_⟩) hHeld ?_ ?_
        rotate_left
        · rintro w' ⟨s0, s1, s2, s3, s4, s5⟩
          go_simp
          with_reducible rfl
        rotate_left
        · simp only [Act.put, List.setIfInBounds_toArray, List.set_cons_zero, List.set_cons_succ, i64_w, i32_w]
          rfl
        refine pure_ (i := 7) (N := some 128) (v := ?_) (a' := ?_) #[true, true, true, true, true, true, true, true, false, false, false, false, false, false, false] rfl rfl (by kernel_rfl) (fun _ _ _ h => h) (Or.inl ⟨by rfl, ?_⟩) ?_ ?_
        rotate_left
        · intro w'
          go_simp
          with_reducible rfl
        rotate_left
        · simp only [Act.put, List.setIfInBounds_toArray, List.set_cons_zero, List.set_cons_succ, i64_w, i32_w]
          rfl
        refine take_ (i := 8) (N := some 129) (v := ?_) (a' := ?_) #[true, true, true, true, true, true, true, true, true, false, false, false, false, false, false] rfl rfl (by kernel_rfl) (fun _ _ _ h => h) (Or.inl ⟨by rfl, ?_⟩) hHeld ?_ ?_
        rotate_left
        · rintro w' ⟨s0, s1, s2, s3, s4, s5⟩
          go_simp
          with_reducible rfl
        rotate_left
        · simp only [Act.put, List.setIfInBounds_toArray, List.set_cons_zero, List.set_cons_succ, i64_w, i32_w]
          rfl
        refine pure_ (i := 9) (N := some 130) (v := ?_) (a' := ?_) #[true, true, true, true, true, true, true, true, true, true, false, false, false, false, false] rfl rfl (by kernel_rfl) (fun _ _ _ h => h) (Or.inl ⟨by rfl, ?_⟩) ?_ ?_
        rotate_left
        · intro w'
          go_simp
          with_reducible rfl
        rotate_left
        · simp only [Act.put, List.setIfInBounds_toArray, List.set_cons_zero, List.set_cons_succ, i64_w, i32_w]
          rfl
        refine pure_ (i := 10) (N := some 131) (v := ?_) (a' := ?_) #[true, true, true, true, true, true, true, true, true, true, true, false, false, false, false] rfl rfl (by kernel_rfl) (fun _ _ _ h => h) (Or.inl ⟨by rfl, ?_⟩) ?_ ?_
        rotate_left
        · intro w'
          go_simp
          with_reducible rfl
        rotate_left
        · simp only [Act.put, List.setIfInBounds_toArray, List.set_cons_zero, List.set_cons_succ, i64_w, i32_w]
          rfl
        refine take_ (i := 11) (N := some 132) (v := ?_) (a' := ?_) #[true, true, true, true, true, true, true, true, true, true, true, true, false, false, false] rfl rfl (by kernel_rfl) (fun _ _ _ h => h) (Or.inl ⟨by rfl, ?_⟩) hHeld ?_ ?_
        rotate_left
        · rintro w' ⟨s0, s1, s2, s3, s4, s5⟩
          go_simp
          with_reducible rfl
        rotate_left
        · simp only [Act.put, List.setIfInBounds_toArray, List.set_cons_zero, List.set_cons_succ, i64_w, i32_w]
          rfl
        refine one_ (i := 12) (N := some 133) #[true, true, true, true, true, true, true, true, true, true, true, true, true, false, false] rfl rfl (by kernel_rfl) (by decide) (fun K hK => ?_)
        refine goes_ Tryz.func41 (by kernel_rfl) rfl #[.agg #[.string ⟨#[120]⟩, .slice none 0 0], .agg #[.string ⟨#[120]⟩, .slice none 0 0]] (by rfl) rfl rfl (by simp only [List.map_toArray, List.map_cons, List.map_nil]; rfl) ?_
        refine (sameP W6).mono ?_
        rintro e W7 ⟨rfl, hb7⟩
        refine ⟨_, rfl, ?_⟩
        have HT7 := Lib.hid (HT6.out.below hb7)
        have HB7 := Lib.hid (below_step HB6.out hb7)
        clear hb7 HT6 HB6
        refine hK.out _ _ ⟨(blk_cell HT7.out.g 6).trans rfl, (blk_cell HT7.out.h 6).trans rfl, (blk_cell HT7.out.p 0).trans rfl, (blk_cell HT7.out.p 1).trans rfl, (blk_cell HT7.out.n 0).trans rfl, (blk_cell HT7.out.n 1).trans rfl⟩ (fun hHeld => ?_)
        clear hK K
        refine norm_ (a' := ?_) ?_ ?_
        rotate_left
        · show Act.put _ (some 133) _ = _
          simp only [Act.put, List.setIfInBounds_toArray, List.set_cons_zero, List.set_cons_succ, i64_w, i32_w]
          rfl
        refine pure_ (i := 13) (N := some 134) (v := ?_) (a' := ?_) #[true, true, true, true, true, true, true, true, true, true, true, true, true, true, false] rfl rfl (by kernel_rfl) (fun _ _ _ h => h) (Or.inl ⟨by rfl, ?_⟩) ?_ ?_
        rotate_left
        · intro w'
          go_simp
          with_reducible rfl
        rotate_left
        · simp only [Act.put, List.setIfInBounds_toArray, List.set_cons_zero, List.set_cons_succ, i64_w, i32_w]
          rfl
        refine pure_ (i := 14) (N := some 5) (v := ?_) (a' := ?_) #[true, true, true, true, true, true, true, true, true, true, true, true, true, true, true] rfl rfl (by kernel_rfl) (fun _ _ _ h => h) (Or.inl ⟨by rfl, ?_⟩) ?_ ?_
        rotate_left
        · intro w'
          go_simp
          with_reducible rfl
        rotate_left
        · simp only [Act.put, List.setIfInBounds_toArray, List.set_cons_zero, List.set_cons_succ, i64_w, i32_w]
          rfl
        refine done_ (by kernel_rfl) ?_
        go_wp2_with fail
        go_roundw
        case rel => exact ⟨1, by omega, rfl, rfl, HT7, HB7⟩
        case measure => simp [intOf]
      · go_wp2_with fail
        go_loop [5, 8] (fun s v => s = .bool true ∧ v = .int .i64 0) (fun _ _ => 0)
        case atStart => exact ⟨rfl, rfl⟩
        case round =>
          obtain ⟨rfl, rfl⟩ := hrel
          go_wp2_with fail
          go_loop [5, 9] (fun s v => s = .bool true ∧ v = .int .i64 0) (fun _ _ => 0)
          case atStart => exact ⟨rfl, rfl⟩
          case round =>
            obtain ⟨rfl, rfl⟩ := hrel
            go_wp2_with fail
            go_loop [5, 10] (fun s v => s = .bool true ∧ v = .int .i64 0) (fun _ _ => 0)
            case atStart => exact ⟨rfl, rfl⟩
            case round =>
              obtain ⟨rfl, rfl⟩ := hrel
              go_wp2_with fail
              go_loop [5, 11] (fun s v => s = .bool true ∧ v = .int .i64 0) (fun _ _ => 0)
              case atStart => exact ⟨rfl, rfl⟩
              case round =>
                obtain ⟨rfl, rfl⟩ := hrel
                go_wp2_with fail
                go_ret
                exact ⟨rfl, HB2.out⟩
end Go.Proofs.YtklgecdklngekaaGreatDoor.WSame
