/- WishTells answers true, at any two wishes -/
import Derived.Test.YtklgecdklngekaaGreatDoorWHeads
import Derived.Test.YtklgecdklngekaaGreatDoorWPlain
namespace Go.Proofs.YtklgecdklngekaaGreatDoor.WLaw
set_option linter.unusedVariables false
set_option linter.unusedSimpArgs false
open Go.RowKit Go.Proofs.YtklgecdklngekaaGreatDoorW.PrintWords Go.Proofs.YtklgecdklngekaaGreatDoorW.PrintLast Go.Proofs.YtklgecdklngekaaGreatDoor.Q Go.Proofs.YtklgecdklngekaaGreatDoor.WPers Go.Proofs.YtklgecdklngekaaGreatDoor.WExm
theorem both_right (a0 a1 a2 a3 a4 a5 a6 a7 a9 a10 a12 : Int) (a11 : Bool) (A0 : Option Addr) (c0 : Nat) (l0 : List Int) (hc : l0.length ≤ c0) : ∃ r : Bool, (∀ W', Kd.C (Kd.int .i64) W' A0 l0.length l0 → Calls Tryz.prog 6 #[.agg #[.int .i64 a0, .int .i64 a1, .int .i64 a2, .int .u32 a3, .int .u8 a4, .int .i64 a5, .int .i64 a6, .int .i64 a7, .slice A0 l0.length c0, .int .i64 a9, .int .i64 a10, .bool a11, .int .i64 a12]] W' fun e w' => e = .returned (.bool r) ∧ Below W'.heap.size W' w') ∧ (∀ W', Kd.C (Kd.int .i64) W' A0 l0.length l0 → Calls Tryz.prog 7 #[.agg #[.int .i64 a0, .int .i64 a1, .int .i64 a2, .int .u32 a3, .int .u8 a4, .int .i64 a5, .int .i64 a6, .int .i64 a7, .slice A0 l0.length c0, .int .i64 a9, .int .i64 a10, .bool a11, .int .i64 a12]] W' fun e w' => e = .returned (.bool r) ∧ Below W'.heap.size W' w') := by
  obtain ⟨r1, r2, r3, r4, r5, r6, hf, hr⟩ := WPlain.right_v a0 a1 a2 a3 a4 a5 a6 a7 l0 a9 a10 a11 a12
  exact ⟨_, fun W' h => WRight.right_c a0 a1 a2 a3 a4 a5 a6 a7 A0 c0 l0 a9 a10 a11 a12 W' h hc r1 r2 r3 r4 r5 r6 hf, fun W' h => horariumref44_Right.calls 1 a0 a1 a2 a3 a4 a5 a6 a7 A0 c0 l0 a9 a10 a11 a12 _ W' h hc hr⟩
theorem both_same (a0 a1 a2 a3 a4 a5 a6 a7 a9 a10 a12 b0 b1 b2 b3 b4 b5 b6 b7 b9 b10 b12 : Int) (a11 b11 : Bool) (A0 A1 : Option Addr) (c0 c1 : Nat) (l0 l1 : List Int) (h0 : l0.length ≤ c0) (h1 : l1.length ≤ c1) (hl : l0.length ≤ 40) : ∃ r : Bool, (∀ W', Kd.C (Kd.int .i64) W' A0 l0.length l0 → Kd.C (Kd.int .i64) W' A1 l1.length l1 → Calls Tryz.prog 8 #[.agg #[.int .i64 a0, .int .i64 a1, .int .i64 a2, .int .u32 a3, .int .u8 a4, .int .i64 a5, .int .i64 a6, .int .i64 a7, .slice A0 l0.length c0, .int .i64 a9, .int .i64 a10, .bool a11, .int .i64 a12], .agg #[.int .i64 b0, .int .i64 b1, .int .i64 b2, .int .u32 b3, .int .u8 b4, .int .i64 b5, .int .i64 b6, .int .i64 b7, .slice A1 l1.length c1, .int .i64 b9, .int .i64 b10, .bool b11, .int .i64 b12]] W' fun e w' => e = .returned (.bool r) ∧ Below W'.heap.size W' w') ∧ (∀ W', Kd.C (Kd.int .i64) W' A0 l0.length l0 → Kd.C (Kd.int .i64) W' A1 l1.length l1 → Calls Tryz.prog 9 #[.agg #[.int .i64 a0, .int .i64 a1, .int .i64 a2, .int .u32 a3, .int .u8 a4, .int .i64 a5, .int .i64 a6, .int .i64 a7, .slice A0 l0.length c0, .int .i64 a9, .int .i64 a10, .bool a11, .int .i64 a12], .agg #[.int .i64 b0, .int .i64 b1, .int .i64 b2, .int .u32 b3, .int .u8 b4, .int .i64 b5, .int .i64 b6, .int .i64 b7, .slice A1 l1.length c1, .int .i64 b9, .int .i64 b10, .bool b11, .int .i64 b12]] W' fun e w' => e = .returned (.bool r) ∧ Below W'.heap.size W' w') := by
  obtain ⟨r, e1, e2⟩ := WPlain.same_v a0 a1 a2 a3 a4 a5 a6 a7 l0 a9 a10 a11 a12 b0 b1 b2 b3 b4 b5 b6 b7 l1 b9 b10 b11 b12 (by omega)
  exact ⟨r, fun W' h h' => wish_Same.calls 1001 a0 a1 a2 a3 a4 a5 a6 a7 A0 c0 l0 a9 a10 a11 a12 b0 b1 b2 b3 b4 b5 b6 b7 A1 c1 l1 b9 b10 b11 b12 r W' h h0 h' h1 e1, fun W' h h' => horariumref44_Same.calls 1001 a0 a1 a2 a3 a4 a5 a6 a7 A0 c0 l0 a9 a10 a11 a12 b0 b1 b2 b3 b4 b5 b6 b7 A1 c1 l1 b9 b10 b11 b12 r W' h h0 h' h1 e2⟩
theorem same_self (a0 a1 a2 a3 a4 a5 a6 a7 a9 a10 a12 : Int) (a11 : Bool) (A0 : Option Addr) (c0 : Nat) (l0 : List Int) (h0 : l0.length ≤ c0) (hl : l0.length ≤ 40) : ∀ W', Kd.C (Kd.int .i64) W' A0 l0.length l0 → Calls Tryz.prog 8 #[.agg #[.int .i64 a0, .int .i64 a1, .int .i64 a2, .int .u32 a3, .int .u8 a4, .int .i64 a5, .int .i64 a6, .int .i64 a7, .slice A0 l0.length c0, .int .i64 a9, .int .i64 a10, .bool a11, .int .i64 a12], .agg #[.int .i64 a0, .int .i64 a1, .int .i64 a2, .int .u32 a3, .int .u8 a4, .int .i64 a5, .int .i64 a6, .int .i64 a7, .slice A0 l0.length c0, .int .i64 a9, .int .i64 a10, .bool a11, .int .i64 a12]] W' fun e w' => e = .returned (.bool true) ∧ Below W'.heap.size W' w' :=
  fun W' h => wish_Same.calls 1001 a0 a1 a2 a3 a4 a5 a6 a7 A0 c0 l0 a9 a10 a11 a12 a0 a1 a2 a3 a4 a5 a6 a7 A0 c0 l0 a9 a10 a11 a12 true W' h h0 h h0 (WPlain.same_self a0 a1 a2 a3 a4 a5 a6 a7 l0 a9 a10 a11 a12 (by omega))
set_option maxHeartbeats 16000000 in
set_option maxRecDepth 100000 in
theorem tells_c (a0 a1 a2 a3 a4 a5 a6 a7 a9 a10 a12 b0 b1 b2 b3 b4 b5 b6 b7 b9 b10 b12 : Int) (a11 b11 : Bool) (A0 A1 : Option Addr) (c0 c1 : Nat) (l0 l1 : List Int) (W : World) (hr0 : Kd.C (Kd.int .i64) W A0 l0.length l0) (hc0 : l0.length ≤ c0) (hr1 : Kd.C (Kd.int .i64) W A1 l1.length l1) (hc1 : l1.length ≤ c1) :
    Calls Tryz.prog 3 #[.agg #[.int .i64 a0, .int .i64 a1, .int .i64 a2, .int .u32 a3, .int .u8 a4, .int .i64 a5, .int .i64 a6, .int .i64 a7, .slice A0 l0.length c0, .int .i64 a9, .int .i64 a10, .bool a11, .int .i64 a12], .agg #[.int .i64 b0, .int .i64 b1, .int .i64 b2, .int .u32 b3, .int .u8 b4, .int .i64 b5, .int .i64 b6, .int .i64 b7, .slice A1 l1.length c1, .int .i64 b9, .int .i64 b10, .bool b11, .int .i64 b12]] W fun e w' => e = .returned (.bool true) ∧ Below W.heap.size W w' := by
  have HR0 := Lib.hid hr0
  have HR1 := Lib.hid hr1
  have HC0 := Lib.hid hc0
  have HC1 := Lib.hid hc1
  clear hr0 hr1 hc0 hc1
  have hu_0 := Tryz.underlying31
  go_enter Tryz.func3, Tryz.ntmps3
  go_wp2_with fail
  have HB0 := Lib.hid (blk_alloc (blk_new W (.cells #[.int .i64 a0, .int .i64 a1, .int .i64 a2, .int .u32 a3, .int .u8 a4, .int .i64 a5, .int .i64 a6, .int .i64 a7, .slice A0 l0.length c0, .int .i64 a9, .int .i64 a10, .bool a11, .int .i64 a12] 31)) (.cells #[.int .i64 b0, .int .i64 b1, .int .i64 b2, .int .u32 b3, .int .u8 b4, .int .i64 b5, .int .i64 b6, .int .i64 b7, .slice A1 l1.length c1, .int .i64 b9, .int .i64 b10, .bool b11, .int .i64 b12] 31))
  have hn1 := blk_new (W.alloc (.cells #[.int .i64 a0, .int .i64 a1, .int .i64 a2, .int .u32 a3, .int .u8 a4, .int .i64 a5, .int .i64 a6, .int .i64 a7, .slice A0 l0.length c0, .int .i64 a9, .int .i64 a10, .bool a11, .int .i64 a12] 31)) (.cells #[.int .i64 b0, .int .i64 b1, .int .i64 b2, .int .u32 b3, .int .u8 b4, .int .i64 b5, .int .i64 b6, .int .i64 b7, .slice A1 l1.length c1, .int .i64 b9, .int .i64 b10, .bool b11, .int .i64 b12] 31)
  rw [World.size_alloc] at hn1
  have HB1 := Lib.hid (hn1)
  clear hn1
  have HBW := Lib.hid (below_alloc (below_alloc (Below.refl W.heap.size W) (.cells #[.int .i64 a0, .int .i64 a1, .int .i64 a2, .int .u32 a3, .int .u8 a4, .int .i64 a5, .int .i64 a6, .int .i64 a7, .slice A0 l0.length c0, .int .i64 a9, .int .i64 a10, .bool a11, .int .i64 a12] 31)) (.cells #[.int .i64 b0, .int .i64 b1, .int .i64 b2, .int .u32 b3, .int .u8 b4, .int .i64 b5, .int .i64 b6, .int .i64 b7, .slice A1 l1.length c1, .int .i64 b9, .int .i64 b10, .bool b11, .int .i64 b12] 31))
  generalize (W.alloc (.cells #[.int .i64 a0, .int .i64 a1, .int .i64 a2, .int .u32 a3, .int .u8 a4, .int .i64 a5, .int .i64 a6, .int .i64 a7, .slice A0 l0.length c0, .int .i64 a9, .int .i64 a10, .bool a11, .int .i64 a12] 31)).alloc (.cells #[.int .i64 b0, .int .i64 b1, .int .i64 b2, .int .u32 b3, .int .u8 b4, .int .i64 b5, .int .i64 b6, .int .i64 b7, .slice A1 l1.length c1, .int .i64 b9, .int .i64 b10, .bool b11, .int .i64 b12] 31) = W1 at *
  have HR0_1 := Lib.hid (Kd.C_below HR0.out HBW.out)
  have HR1_1 := Lib.hid (Kd.C_below HR1.out HBW.out)
  clear HR0 HR1
  refine (horariumlaw44_few.calls a0 a1 a2 a3 a4 a5 a6 a7 A0 c0 l0 a9 a10 a11 a12 _ W1 HR0_1.out HC0.out rfl).mono ?_
  rintro e W2 ⟨rfl, hb⟩
  have HX2 := Lib.hid (blk_below HB0.out hb)
  have HY2 := Lib.hid (blk_below HB1.out hb)
  have HR0_2 := Lib.hid (Kd.C_below HR0_1.out hb)
  have HR1_2 := Lib.hid (Kd.C_below HR1_1.out hb)
  have HB2 := Lib.hid (below_step HBW.out hb)
  clear hb HB0 HB1 HBW HR0_1 HR1_1
  by_cases f0 : (l0.length : Int) ≤ 40
  rotate_left
  · rw [show decide ((l0.length : Int) ≤ 40) = false from by simpa using f0]
    clear f0
    go_wp2_with fail
    refine (WHeads.heads_c W2).mono ?_
    rintro e W3 ⟨rfl, hb⟩
    have HB3 := Lib.hid (below_step HB2.out hb)
    clear hb
    go_wp2_with fail
    go_ret
    exact ⟨rfl, HB3.out⟩
  rw [show decide ((l0.length : Int) ≤ 40) = true from by simpa using f0]
  have F0 : Hid (l0.length ≤ 40) := Lib.hid (by omega)
  clear f0
  have y0 : W2.cell? ⟨W.heap.size + 1, 0, none⟩ = some (.int .i64 b0) := (blk_cell HY2.out 0).trans rfl
  have y1 : W2.cell? ⟨W.heap.size + 1, 1, none⟩ = some (.int .i64 b1) := (blk_cell HY2.out 1).trans rfl
  have y2 : W2.cell? ⟨W.heap.size + 1, 2, none⟩ = some (.int .i64 b2) := (blk_cell HY2.out 2).trans rfl
  have y3 : W2.cell? ⟨W.heap.size + 1, 3, none⟩ = some (.int .u32 b3) := (blk_cell HY2.out 3).trans rfl
  have y4 : W2.cell? ⟨W.heap.size + 1, 4, none⟩ = some (.int .u8 b4) := (blk_cell HY2.out 4).trans rfl
  have y5 : W2.cell? ⟨W.heap.size + 1, 5, none⟩ = some (.int .i64 b5) := (blk_cell HY2.out 5).trans rfl
  have y6 : W2.cell? ⟨W.heap.size + 1, 6, none⟩ = some (.int .i64 b6) := (blk_cell HY2.out 6).trans rfl
  have y7 : W2.cell? ⟨W.heap.size + 1, 7, none⟩ = some (.int .i64 b7) := (blk_cell HY2.out 7).trans rfl
  have y8 : W2.cell? ⟨W.heap.size + 1, 8, none⟩ = some (.slice A1 l1.length c1) := (blk_cell HY2.out 8).trans rfl
  have y9 : W2.cell? ⟨W.heap.size + 1, 9, none⟩ = some (.int .i64 b9) := (blk_cell HY2.out 9).trans rfl
  have y10 : W2.cell? ⟨W.heap.size + 1, 10, none⟩ = some (.int .i64 b10) := (blk_cell HY2.out 10).trans rfl
  have y11 : W2.cell? ⟨W.heap.size + 1, 11, none⟩ = some (.bool b11) := (blk_cell HY2.out 11).trans rfl
  have y12 : W2.cell? ⟨W.heap.size + 1, 12, none⟩ = some (.int .i64 b12) := (blk_cell HY2.out 12).trans rfl
  go_wp2_with fail
  clear y0 y1 y2 y3 y4 y5 y6 y7 y8 y9 y10 y11 y12
  refine (horariumlaw44_few.calls b0 b1 b2 b3 b4 b5 b6 b7 A1 c1 l1 b9 b10 b11 b12 _ W2 HR1_2.out HC1.out rfl).mono ?_
  rintro e W3 ⟨rfl, hb⟩
  have HX3 := Lib.hid (blk_below HX2.out hb)
  have HY3 := Lib.hid (blk_below HY2.out hb)
  have HR0_3 := Lib.hid (Kd.C_below HR0_2.out hb)
  have HR1_3 := Lib.hid (Kd.C_below HR1_2.out hb)
  have HB3 := Lib.hid (below_step HB2.out hb)
  clear hb HX2 HY2 HR0_2 HR1_2 HB2
  by_cases f1 : (l1.length : Int) ≤ 40
  rotate_left
  · rw [show decide ((l1.length : Int) ≤ 40) = false from by simpa using f1]
    clear f1
    go_wp2_with fail
    refine (WHeads.heads_c W3).mono ?_
    rintro e W4 ⟨rfl, hb⟩
    have HB4 := Lib.hid (below_step HB3.out hb)
    clear hb
    go_wp2_with fail
    go_ret
    exact ⟨rfl, HB4.out⟩
  rw [show decide ((l1.length : Int) ≤ 40) = true from by simpa using f1]
  clear f1
  go_wp2_with fail
  obtain ⟨R, hR1, hR2⟩ := both_right a0 a1 a2 a3 a4 a5 a6 a7 a9 a10 a12 a11 A0 c0 l0 HC0.out
  obtain ⟨S, hS1, hS2⟩ := both_same a0 a1 a2 a3 a4 a5 a6 a7 a9 a10 a12 b0 b1 b2 b3 b4 b5 b6 b7 b9 b10 b12 a11 b11 A0 A1 c0 c1 l0 l1 HC0.out HC1.out F0.out
  have hS3 := same_self a0 a1 a2 a3 a4 a5 a6 a7 a9 a10 a12 a11 A0 c0 l0 HC0.out F0.out
  have HR1c := Lib.hid hR1
  have HR2c := Lib.hid hR2
  have HS1c := Lib.hid hS1
  have HS2c := Lib.hid hS2
  have HS3c := Lib.hid hS3
  clear hR1 hR2 hS1 hS2 hS3
  have hbd : Below W3.heap.size W3 W3.drew := (Below.refl _ _).drew
  have HX6 := Lib.hid (blk_below HX3.out hbd)
  have HY6 := Lib.hid (blk_below HY3.out hbd)
  have HQ6 := Lib.hid (Kd.C_below HR0_3.out hbd)
  have HZ6 := Lib.hid (Kd.C_below HR1_3.out hbd)
  have HB6 := Lib.hid (below_step HB3.out hbd)
  clear hbd HX3 HY3 HR0_3 HR1_3 HB3
  refine start_ (n := 23) (S := fun w' => w'.cell? ⟨W.heap.size, 0, none⟩ = some (.int .i64 a0) ∧ w'.cell? ⟨W.heap.size, 1, none⟩ = some (.int .i64 a1) ∧ w'.cell? ⟨W.heap.size, 2, none⟩ = some (.int .i64 a2) ∧ w'.cell? ⟨W.heap.size, 3, none⟩ = some (.int .u32 a3) ∧ w'.cell? ⟨W.heap.size, 4, none⟩ = some (.int .u8 a4) ∧ w'.cell? ⟨W.heap.size, 5, none⟩ = some (.int .i64 a5) ∧ w'.cell? ⟨W.heap.size, 6, none⟩ = some (.int .i64 a6) ∧ w'.cell? ⟨W.heap.size, 7, none⟩ = some (.int .i64 a7) ∧ w'.cell? ⟨W.heap.size, 8, none⟩ = some (.slice A0 l0.length c0) ∧ w'.cell? ⟨W.heap.size, 9, none⟩ = some (.int .i64 a9) ∧ w'.cell? ⟨W.heap.size, 10, none⟩ = some (.int .i64 a10) ∧ w'.cell? ⟨W.heap.size, 11, none⟩ = some (.bool a11) ∧ w'.cell? ⟨W.heap.size, 12, none⟩ = some (.int .i64 a12) ∧ w'.cell? ⟨W.heap.size + 1, 0, none⟩ = some (.int .i64 b0) ∧ w'.cell? ⟨W.heap.size + 1, 1, none⟩ = some (.int .i64 b1) ∧ w'.cell? ⟨W.heap.size + 1, 2, none⟩ = some (.int .i64 b2) ∧ w'.cell? ⟨W.heap.size + 1, 3, none⟩ = some (.int .u32 b3) ∧ w'.cell? ⟨W.heap.size + 1, 4, none⟩ = some (.int .u8 b4) ∧ w'.cell? ⟨W.heap.size + 1, 5, none⟩ = some (.int .i64 b5) ∧ w'.cell? ⟨W.heap.size + 1, 6, none⟩ = some (.int .i64 b6) ∧ w'.cell? ⟨W.heap.size + 1, 7, none⟩ = some (.int .i64 b7) ∧ w'.cell? ⟨W.heap.size + 1, 8, none⟩ = some (.slice A1 l1.length c1) ∧ w'.cell? ⟨W.heap.size + 1, 9, none⟩ = some (.int .i64 b9) ∧ w'.cell? ⟨W.heap.size + 1, 10, none⟩ = some (.int .i64 b10) ∧ w'.cell? ⟨W.heap.size + 1, 11, none⟩ = some (.bool b11) ∧ w'.cell? ⟨W.heap.size + 1, 12, none⟩ = some (.int .i64 b12)) (ds := []) #[false, false, false, false, false, false, false, false, false, false, false, false, false, false, false, false, false, false, false, false, false, false, false] (by kernel_rfl) rfl rfl ⟨(blk_cell HX6.out 0).trans rfl, (blk_cell HX6.out 1).trans rfl, (blk_cell HX6.out 2).trans rfl, (blk_cell HX6.out 3).trans rfl, (blk_cell HX6.out 4).trans rfl, (blk_cell HX6.out 5).trans rfl, (blk_cell HX6.out 6).trans rfl, (blk_cell HX6.out 7).trans rfl, (blk_cell HX6.out 8).trans rfl, (blk_cell HX6.out 9).trans rfl, (blk_cell HX6.out 10).trans rfl, (blk_cell HX6.out 11).trans rfl, (blk_cell HX6.out 12).trans rfl, (blk_cell HY6.out 0).trans rfl, (blk_cell HY6.out 1).trans rfl, (blk_cell HY6.out 2).trans rfl, (blk_cell HY6.out 3).trans rfl, (blk_cell HY6.out 4).trans rfl, (blk_cell HY6.out 5).trans rfl, (blk_cell HY6.out 6).trans rfl, (blk_cell HY6.out 7).trans rfl, (blk_cell HY6.out 8).trans rfl, (blk_cell HY6.out 9).trans rfl, (blk_cell HY6.out 10).trans rfl, (blk_cell HY6.out 11).trans rfl, (blk_cell HY6.out 12).trans rfl⟩ (fun hHeld => ?_)
  generalize W3.drew = W6 at *
  refine take_ (i := 0) (N := some 14) (v := ?_) (a' := ?_) #[true, false, false, false, false, false, false, false, false, false, false, false, false, false, false, false, false, false, false, false, false, false, false] rfl rfl (by kernel_rfl) (fun _ _ _ h => h) (Or.inl ⟨by rfl, ?_⟩) hHeld ?_ ?_
  rotate_left
  · rintro w' ⟨s0, s1, s2, s3, s4, s5, s6, s7, s8, s9, s10, s11, s12, s13, s14, s15, s16, s17, s18, s19, s20, s21, s22, s23, s24, s25⟩
    go_simp
    with_reducible rfl
  rotate_left
  · simp only [Act.put, List.setIfInBounds_toArray, List.set_cons_zero, List.set_cons_succ, i64_w, i32_w]
    rfl
  refine take_ (i := 2) (N := some 16) (v := ?_) (a' := ?_) #[true, false, true, false, false, false, false, false, false, false, false, false, false, false, false, false, false, false, false, false, false, false, false] rfl rfl (by kernel_rfl) (fun _ _ _ h => h) (Or.inl ⟨by rfl, ?_⟩) hHeld ?_ ?_
  rotate_left
  · rintro w' ⟨s0, s1, s2, s3, s4, s5, s6, s7, s8, s9, s10, s11, s12, s13, s14, s15, s16, s17, s18, s19, s20, s21, s22, s23, s24, s25⟩
    go_simp
    with_reducible rfl
  rotate_left
  · simp only [Act.put, List.setIfInBounds_toArray, List.set_cons_zero, List.set_cons_succ, i64_w, i32_w]
    rfl
  refine one_ (i := 1) (N := some 15) #[true, true, true, false, false, false, false, false, false, false, false, false, false, false, false, false, false, false, false, false, false, false, false] rfl rfl (by kernel_rfl) (by decide) (fun K hK => ?_)
  refine goes_ Tryz.func6 (by kernel_rfl) rfl #[.agg #[.int .i64 a0, .int .i64 a1, .int .i64 a2, .int .u32 a3, .int .u8 a4, .int .i64 a5, .int .i64 a6, .int .i64 a7, .slice A0 l0.length c0, .int .i64 a9, .int .i64 a10, .bool a11, .int .i64 a12]] (by rfl) rfl rfl (by simp only [List.map_toArray, List.map_cons, List.map_nil]; rfl) ?_
  refine (HR1c.out W6 HQ6.out).mono ?_
  rintro e W7 ⟨rfl, hb⟩
  refine ⟨_, rfl, ?_⟩
  have HX7 := Lib.hid (blk_below HX6.out hb)
  have HY7 := Lib.hid (blk_below HY6.out hb)
  have HQ7 := Lib.hid (Kd.C_below HQ6.out hb)
  have HZ7 := Lib.hid (Kd.C_below HZ6.out hb)
  have HB7 := Lib.hid (below_step HB6.out hb)
  clear hb HX6 HY6 HQ6 HZ6 HB6
  refine hK.out _ _ ⟨(blk_cell HX7.out 0).trans rfl, (blk_cell HX7.out 1).trans rfl, (blk_cell HX7.out 2).trans rfl, (blk_cell HX7.out 3).trans rfl, (blk_cell HX7.out 4).trans rfl, (blk_cell HX7.out 5).trans rfl, (blk_cell HX7.out 6).trans rfl, (blk_cell HX7.out 7).trans rfl, (blk_cell HX7.out 8).trans rfl, (blk_cell HX7.out 9).trans rfl, (blk_cell HX7.out 10).trans rfl, (blk_cell HX7.out 11).trans rfl, (blk_cell HX7.out 12).trans rfl, (blk_cell HY7.out 0).trans rfl, (blk_cell HY7.out 1).trans rfl, (blk_cell HY7.out 2).trans rfl, (blk_cell HY7.out 3).trans rfl, (blk_cell HY7.out 4).trans rfl, (blk_cell HY7.out 5).trans rfl, (blk_cell HY7.out 6).trans rfl, (blk_cell HY7.out 7).trans rfl, (blk_cell HY7.out 8).trans rfl, (blk_cell HY7.out 9).trans rfl, (blk_cell HY7.out 10).trans rfl, (blk_cell HY7.out 11).trans rfl, (blk_cell HY7.out 12).trans rfl⟩ (fun hHeld => ?_)
  clear hK K
  refine norm_ (a' := ?_) ?_ ?_
  rotate_left
  · show Act.put _ (some 15) _ = _
    simp only [Act.put, List.setIfInBounds_toArray, List.set_cons_zero, List.set_cons_succ, i64_w, i32_w]
    rfl
  refine one_ (i := 3) (N := some 17) #[true, true, true, true, false, false, false, false, false, false, false, false, false, false, false, false, false, false, false, false, false, false, false] rfl rfl (by kernel_rfl) (by decide) (fun K hK => ?_)
  refine goes_ Tryz.func7 (by kernel_rfl) rfl #[.agg #[.int .i64 a0, .int .i64 a1, .int .i64 a2, .int .u32 a3, .int .u8 a4, .int .i64 a5, .int .i64 a6, .int .i64 a7, .slice A0 l0.length c0, .int .i64 a9, .int .i64 a10, .bool a11, .int .i64 a12]] (by rfl) rfl rfl (by simp only [List.map_toArray, List.map_cons, List.map_nil]; rfl) ?_
  refine (HR2c.out W7 HQ7.out).mono ?_
  rintro e W8 ⟨rfl, hb⟩
  refine ⟨_, rfl, ?_⟩
  have HX8 := Lib.hid (blk_below HX7.out hb)
  have HY8 := Lib.hid (blk_below HY7.out hb)
  have HQ8 := Lib.hid (Kd.C_below HQ7.out hb)
  have HZ8 := Lib.hid (Kd.C_below HZ7.out hb)
  have HB8 := Lib.hid (below_step HB7.out hb)
  clear hb HX7 HY7 HQ7 HZ7 HB7
  refine hK.out _ _ ⟨(blk_cell HX8.out 0).trans rfl, (blk_cell HX8.out 1).trans rfl, (blk_cell HX8.out 2).trans rfl, (blk_cell HX8.out 3).trans rfl, (blk_cell HX8.out 4).trans rfl, (blk_cell HX8.out 5).trans rfl, (blk_cell HX8.out 6).trans rfl, (blk_cell HX8.out 7).trans rfl, (blk_cell HX8.out 8).trans rfl, (blk_cell HX8.out 9).trans rfl, (blk_cell HX8.out 10).trans rfl, (blk_cell HX8.out 11).trans rfl, (blk_cell HX8.out 12).trans rfl, (blk_cell HY8.out 0).trans rfl, (blk_cell HY8.out 1).trans rfl, (blk_cell HY8.out 2).trans rfl, (blk_cell HY8.out 3).trans rfl, (blk_cell HY8.out 4).trans rfl, (blk_cell HY8.out 5).trans rfl, (blk_cell HY8.out 6).trans rfl, (blk_cell HY8.out 7).trans rfl, (blk_cell HY8.out 8).trans rfl, (blk_cell HY8.out 9).trans rfl, (blk_cell HY8.out 10).trans rfl, (blk_cell HY8.out 11).trans rfl, (blk_cell HY8.out 12).trans rfl⟩ (fun hHeld => ?_)
  clear hK K
  refine norm_ (a' := ?_) ?_ ?_
  rotate_left
  · show Act.put _ (some 17) _ = _
    simp only [Act.put, List.setIfInBounds_toArray, List.set_cons_zero, List.set_cons_succ, i64_w, i32_w]
    rfl
  refine pure_ (i := 4) (N := some 18) (v := ?_) (a' := ?_) #[true, true, true, true, true, false, false, false, false, false, false, false, false, false, false, false, false, false, false, false, false, false, false] rfl rfl (by kernel_rfl) (fun _ _ _ h => h) (Or.inl ⟨by rfl, ?_⟩) ?_ ?_
  rotate_left
  · intro w'
    go_simp
    with_reducible rfl
  rotate_left
  · simp only [Act.put, List.setIfInBounds_toArray, List.set_cons_zero, List.set_cons_succ, i64_w, i32_w]
    rfl
  refine pure_ (i := 5) (N := some 19) (v := ?_) (a' := ?_) #[true, true, true, true, true, true, false, false, false, false, false, false, false, false, false, false, false, false, false, false, false, false, false] rfl rfl (by kernel_rfl) (fun _ _ _ h => h) (Or.inl ⟨by rfl, ?_⟩) ?_ ?_
  rotate_left
  · intro w'
    go_simp
    with_reducible rfl
  rotate_left
  · simp only [Act.put, List.setIfInBounds_toArray, List.set_cons_zero, List.set_cons_succ, i64_w, i32_w]
    rfl
  refine take_ (i := 6) (N := some 20) (v := ?_) (a' := ?_) #[true, true, true, true, true, true, true, false, false, false, false, false, false, false, false, false, false, false, false, false, false, false, false] rfl rfl (by kernel_rfl) (fun _ _ _ h => h) (Or.inl ⟨by rfl, ?_⟩) hHeld ?_ ?_
  rotate_left
  · rintro w' ⟨s0, s1, s2, s3, s4, s5, s6, s7, s8, s9, s10, s11, s12, s13, s14, s15, s16, s17, s18, s19, s20, s21, s22, s23, s24, s25⟩
    go_simp
    with_reducible rfl
  rotate_left
  · simp only [Act.put, List.setIfInBounds_toArray, List.set_cons_zero, List.set_cons_succ, i64_w, i32_w]
    rfl
  refine take_ (i := 7) (N := some 21) (v := ?_) (a' := ?_) #[true, true, true, true, true, true, true, true, false, false, false, false, false, false, false, false, false, false, false, false, false, false, false] rfl rfl (by kernel_rfl) (fun _ _ _ h => h) (Or.inl ⟨by rfl, ?_⟩) hHeld ?_ ?_
  rotate_left
  · rintro w' ⟨s0, s1, s2, s3, s4, s5, s6, s7, s8, s9, s10, s11, s12, s13, s14, s15, s16, s17, s18, s19, s20, s21, s22, s23, s24, s25⟩
    go_simp
    with_reducible rfl
  rotate_left
  · simp only [Act.put, List.setIfInBounds_toArray, List.set_cons_zero, List.set_cons_succ, i64_w, i32_w]
    rfl
  refine take_ (i := 9) (N := some 23) (v := ?_) (a' := ?_) #[true, true, true, true, true, true, true, true, false, true, false, false, false, false, false, false, false, false, false, false, false, false, false] rfl rfl (by kernel_rfl) (fun _ _ _ h => h) (Or.inl ⟨by rfl, ?_⟩) hHeld ?_ ?_
  rotate_left
  · rintro w' ⟨s0, s1, s2, s3, s4, s5, s6, s7, s8, s9, s10, s11, s12, s13, s14, s15, s16, s17, s18, s19, s20, s21, s22, s23, s24, s25⟩
    go_simp
    with_reducible rfl
  rotate_left
  · simp only [Act.put, List.setIfInBounds_toArray, List.set_cons_zero, List.set_cons_succ, i64_w, i32_w]
    rfl
  refine take_ (i := 10) (N := some 24) (v := ?_) (a' := ?_) #[true, true, true, true, true, true, true, true, false, true, true, false, false, false, false, false, false, false, false, false, false, false, false] rfl rfl (by kernel_rfl) (fun _ _ _ h => h) (Or.inl ⟨by rfl, ?_⟩) hHeld ?_ ?_
  rotate_left
  · rintro w' ⟨s0, s1, s2, s3, s4, s5, s6, s7, s8, s9, s10, s11, s12, s13, s14, s15, s16, s17, s18, s19, s20, s21, s22, s23, s24, s25⟩
    go_simp
    with_reducible rfl
  rotate_left
  · simp only [Act.put, List.setIfInBounds_toArray, List.set_cons_zero, List.set_cons_succ, i64_w, i32_w]
    rfl
  refine one_ (i := 8) (N := some 22) #[true, true, true, true, true, true, true, true, true, true, true, false, false, false, false, false, false, false, false, false, false, false, false] rfl rfl (by kernel_rfl) (by decide) (fun K hK => ?_)
  refine goes_ Tryz.func8 (by kernel_rfl) rfl #[.agg #[.int .i64 a0, .int .i64 a1, .int .i64 a2, .int .u32 a3, .int .u8 a4, .int .i64 a5, .int .i64 a6, .int .i64 a7, .slice A0 l0.length c0, .int .i64 a9, .int .i64 a10, .bool a11, .int .i64 a12], .agg #[.int .i64 b0, .int .i64 b1, .int .i64 b2, .int .u32 b3, .int .u8 b4, .int .i64 b5, .int .i64 b6, .int .i64 b7, .slice A1 l1.length c1, .int .i64 b9, .int .i64 b10, .bool b11, .int .i64 b12]] (by rfl) rfl rfl (by simp only [List.map_toArray, List.map_cons, List.map_nil]; rfl) ?_
  refine (HS1c.out W8 HQ8.out HZ8.out).mono ?_
  rintro e W9 ⟨rfl, hb⟩
  refine ⟨_, rfl, ?_⟩
  have HX9 := Lib.hid (blk_below HX8.out hb)
  have HY9 := Lib.hid (blk_below HY8.out hb)
  have HQ9 := Lib.hid (Kd.C_below HQ8.out hb)
  have HZ9 := Lib.hid (Kd.C_below HZ8.out hb)
  have HB9 := Lib.hid (below_step HB8.out hb)
  clear hb HX8 HY8 HQ8 HZ8 HB8
  refine hK.out _ _ ⟨(blk_cell HX9.out 0).trans rfl, (blk_cell HX9.out 1).trans rfl, (blk_cell HX9.out 2).trans rfl, (blk_cell HX9.out 3).trans rfl, (blk_cell HX9.out 4).trans rfl, (blk_cell HX9.out 5).trans rfl, (blk_cell HX9.out 6).trans rfl, (blk_cell HX9.out 7).trans rfl, (blk_cell HX9.out 8).trans rfl, (blk_cell HX9.out 9).trans rfl, (blk_cell HX9.out 10).trans rfl, (blk_cell HX9.out 11).trans rfl, (blk_cell HX9.out 12).trans rfl, (blk_cell HY9.out 0).trans rfl, (blk_cell HY9.out 1).trans rfl, (blk_cell HY9.out 2).trans rfl, (blk_cell HY9.out 3).trans rfl, (blk_cell HY9.out 4).trans rfl, (blk_cell HY9.out 5).trans rfl, (blk_cell HY9.out 6).trans rfl, (blk_cell HY9.out 7).trans rfl, (blk_cell HY9.out 8).trans rfl, (blk_cell HY9.out 9).trans rfl, (blk_cell HY9.out 10).trans rfl, (blk_cell HY9.out 11).trans rfl, (blk_cell HY9.out 12).trans rfl⟩ (fun hHeld => ?_)
  clear hK K
  refine norm_ (a' := ?_) ?_ ?_
  rotate_left
  · show Act.put _ (some 22) _ = _
    simp only [Act.put, List.setIfInBounds_toArray, List.set_cons_zero, List.set_cons_succ, i64_w, i32_w]
    rfl
  refine one_ (i := 11) (N := some 25) #[true, true, true, true, true, true, true, true, true, true, true, true, false, false, false, false, false, false, false, false, false, false, false] rfl rfl (by kernel_rfl) (by decide) (fun K hK => ?_)
  refine goes_ Tryz.func9 (by kernel_rfl) rfl #[.agg #[.int .i64 a0, .int .i64 a1, .int .i64 a2, .int .u32 a3, .int .u8 a4, .int .i64 a5, .int .i64 a6, .int .i64 a7, .slice A0 l0.length c0, .int .i64 a9, .int .i64 a10, .bool a11, .int .i64 a12], .agg #[.int .i64 b0, .int .i64 b1, .int .i64 b2, .int .u32 b3, .int .u8 b4, .int .i64 b5, .int .i64 b6, .int .i64 b7, .slice A1 l1.length c1, .int .i64 b9, .int .i64 b10, .bool b11, .int .i64 b12]] (by rfl) rfl rfl (by simp only [List.map_toArray, List.map_cons, List.map_nil]; rfl) ?_
  refine (HS2c.out W9 HQ9.out HZ9.out).mono ?_
  rintro e WA ⟨rfl, hb⟩
  refine ⟨_, rfl, ?_⟩
  have HXA := Lib.hid (blk_below HX9.out hb)
  have HYA := Lib.hid (blk_below HY9.out hb)
  have HQA := Lib.hid (Kd.C_below HQ9.out hb)
  have HZA := Lib.hid (Kd.C_below HZ9.out hb)
  have HBA := Lib.hid (below_step HB9.out hb)
  clear hb HX9 HY9 HQ9 HZ9 HB9
  refine hK.out _ _ ⟨(blk_cell HXA.out 0).trans rfl, (blk_cell HXA.out 1).trans rfl, (blk_cell HXA.out 2).trans rfl, (blk_cell HXA.out 3).trans rfl, (blk_cell HXA.out 4).trans rfl, (blk_cell HXA.out 5).trans rfl, (blk_cell HXA.out 6).trans rfl, (blk_cell HXA.out 7).trans rfl, (blk_cell HXA.out 8).trans rfl, (blk_cell HXA.out 9).trans rfl, (blk_cell HXA.out 10).trans rfl, (blk_cell HXA.out 11).trans rfl, (blk_cell HXA.out 12).trans rfl, (blk_cell HYA.out 0).trans rfl, (blk_cell HYA.out 1).trans rfl, (blk_cell HYA.out 2).trans rfl, (blk_cell HYA.out 3).trans rfl, (blk_cell HYA.out 4).trans rfl, (blk_cell HYA.out 5).trans rfl, (blk_cell HYA.out 6).trans rfl, (blk_cell HYA.out 7).trans rfl, (blk_cell HYA.out 8).trans rfl, (blk_cell HYA.out 9).trans rfl, (blk_cell HYA.out 10).trans rfl, (blk_cell HYA.out 11).trans rfl, (blk_cell HYA.out 12).trans rfl⟩ (fun hHeld => ?_)
  clear hK K
  refine norm_ (a' := ?_) ?_ ?_
  rotate_left
  · show Act.put _ (some 25) _ = _
    simp only [Act.put, List.setIfInBounds_toArray, List.set_cons_zero, List.set_cons_succ, i64_w, i32_w]
    rfl
  refine pure_ (i := 12) (N := some 26) (v := ?_) (a' := ?_) #[true, true, true, true, true, true, true, true, true, true, true, true, true, false, false, false, false, false, false, false, false, false, false] rfl rfl (by kernel_rfl) (fun _ _ _ h => h) (Or.inl ⟨by rfl, ?_⟩) ?_ ?_
  rotate_left
  · intro w'
    go_simp
    with_reducible rfl
  rotate_left
  · simp only [Act.put, List.setIfInBounds_toArray, List.set_cons_zero, List.set_cons_succ, i64_w, i32_w]
    rfl
  refine pure_ (i := 13) (N := some 27) (v := ?_) (a' := ?_) #[true, true, true, true, true, true, true, true, true, true, true, true, true, true, false, false, false, false, false, false, false, false, false] rfl rfl (by kernel_rfl) (fun _ _ _ h => h) (Or.inl ⟨by rfl, ?_⟩) ?_ ?_
  rotate_left
  · intro w'
    go_simp
    with_reducible rfl
  rotate_left
  · simp only [Act.put, List.setIfInBounds_toArray, List.set_cons_zero, List.set_cons_succ, i64_w, i32_w]
    rfl
  refine pure_ (i := 14) (N := some 28) (v := ?_) (a' := ?_) #[true, true, true, true, true, true, true, true, true, true, true, true, true, true, true, false, false, false, false, false, false, false, false] rfl rfl (by kernel_rfl) (fun _ _ _ h => h) (Or.inl ⟨by rfl, ?_⟩) ?_ ?_
  rotate_left
  · intro w'
    go_simp
    with_reducible rfl
  rotate_left
  · simp only [Act.put, List.setIfInBounds_toArray, List.set_cons_zero, List.set_cons_succ, i64_w, i32_w]
    rfl
  refine take_ (i := 15) (N := some 29) (v := ?_) (a' := ?_) #[true, true, true, true, true, true, true, true, true, true, true, true, true, true, true, true, false, false, false, false, false, false, false] rfl rfl (by kernel_rfl) (fun _ _ _ h => h) (Or.inl ⟨by rfl, ?_⟩) hHeld ?_ ?_
  rotate_left
  · rintro w' ⟨s0, s1, s2, s3, s4, s5, s6, s7, s8, s9, s10, s11, s12, s13, s14, s15, s16, s17, s18, s19, s20, s21, s22, s23, s24, s25⟩
    go_simp
    with_reducible rfl
  rotate_left
  · simp only [Act.put, List.setIfInBounds_toArray, List.set_cons_zero, List.set_cons_succ, i64_w, i32_w]
    rfl
  refine take_ (i := 16) (N := some 30) (v := ?_) (a' := ?_) #[true, true, true, true, true, true, true, true, true, true, true, true, true, true, true, true, true, false, false, false, false, false, false] rfl rfl (by kernel_rfl) (fun _ _ _ h => h) (Or.inl ⟨by rfl, ?_⟩) hHeld ?_ ?_
  rotate_left
  · rintro w' ⟨s0, s1, s2, s3, s4, s5, s6, s7, s8, s9, s10, s11, s12, s13, s14, s15, s16, s17, s18, s19, s20, s21, s22, s23, s24, s25⟩
    go_simp
    with_reducible rfl
  rotate_left
  · simp only [Act.put, List.setIfInBounds_toArray, List.set_cons_zero, List.set_cons_succ, i64_w, i32_w]
    rfl
  refine one_ (i := 17) (N := some 31) #[true, true, true, true, true, true, true, true, true, true, true, true, true, true, true, true, true, true, false, false, false, false, false] rfl rfl (by kernel_rfl) (by decide) (fun K hK => ?_)
  refine goes_ Tryz.func8 (by kernel_rfl) rfl #[.agg #[.int .i64 a0, .int .i64 a1, .int .i64 a2, .int .u32 a3, .int .u8 a4, .int .i64 a5, .int .i64 a6, .int .i64 a7, .slice A0 l0.length c0, .int .i64 a9, .int .i64 a10, .bool a11, .int .i64 a12], .agg #[.int .i64 a0, .int .i64 a1, .int .i64 a2, .int .u32 a3, .int .u8 a4, .int .i64 a5, .int .i64 a6, .int .i64 a7, .slice A0 l0.length c0, .int .i64 a9, .int .i64 a10, .bool a11, .int .i64 a12]] (by rfl) rfl rfl (by simp only [List.map_toArray, List.map_cons, List.map_nil]; rfl) ?_
  refine (HS3c.out WA HQA.out).mono ?_
  rintro e WB ⟨rfl, hb⟩
  refine ⟨_, rfl, ?_⟩
  have HXB := Lib.hid (blk_below HXA.out hb)
  have HYB := Lib.hid (blk_below HYA.out hb)
  have HQB := Lib.hid (Kd.C_below HQA.out hb)
  have HZB := Lib.hid (Kd.C_below HZA.out hb)
  have HBB := Lib.hid (below_step HBA.out hb)
  clear hb HXA HYA HQA HZA HBA
  refine hK.out _ _ ⟨(blk_cell HXB.out 0).trans rfl, (blk_cell HXB.out 1).trans rfl, (blk_cell HXB.out 2).trans rfl, (blk_cell HXB.out 3).trans rfl, (blk_cell HXB.out 4).trans rfl, (blk_cell HXB.out 5).trans rfl, (blk_cell HXB.out 6).trans rfl, (blk_cell HXB.out 7).trans rfl, (blk_cell HXB.out 8).trans rfl, (blk_cell HXB.out 9).trans rfl, (blk_cell HXB.out 10).trans rfl, (blk_cell HXB.out 11).trans rfl, (blk_cell HXB.out 12).trans rfl, (blk_cell HYB.out 0).trans rfl, (blk_cell HYB.out 1).trans rfl, (blk_cell HYB.out 2).trans rfl, (blk_cell HYB.out 3).trans rfl, (blk_cell HYB.out 4).trans rfl, (blk_cell HYB.out 5).trans rfl, (blk_cell HYB.out 6).trans rfl, (blk_cell HYB.out 7).trans rfl, (blk_cell HYB.out 8).trans rfl, (blk_cell HYB.out 9).trans rfl, (blk_cell HYB.out 10).trans rfl, (blk_cell HYB.out 11).trans rfl, (blk_cell HYB.out 12).trans rfl⟩ (fun hHeld => ?_)
  clear hK K
  refine norm_ (a' := ?_) ?_ ?_
  rotate_left
  · show Act.put _ (some 31) _ = _
    simp only [Act.put, List.setIfInBounds_toArray, List.set_cons_zero, List.set_cons_succ, i64_w, i32_w]
    rfl
  refine pure_ (i := 18) (N := some 32) (v := ?_) (a' := ?_) #[true, true, true, true, true, true, true, true, true, true, true, true, true, true, true, true, true, true, true, false, false, false, false] rfl rfl (by kernel_rfl) (fun _ _ _ h => h) (Or.inl ⟨by rfl, ?_⟩) ?_ ?_
  rotate_left
  · intro w'
    go_simp
    with_reducible rfl
  rotate_left
  · simp only [Act.put, List.setIfInBounds_toArray, List.set_cons_zero, List.set_cons_succ, i64_w, i32_w]
    rfl
  refine pure_ (i := 19) (N := some 33) (v := ?_) (a' := ?_) #[true, true, true, true, true, true, true, true, true, true, true, true, true, true, true, true, true, true, true, true, false, false, false] rfl rfl (by kernel_rfl) (fun _ _ _ h => h) (Or.inl ⟨by rfl, ?_⟩) ?_ ?_
  rotate_left
  · intro w'
    go_simp
    with_reducible rfl
  rotate_left
  · simp only [Act.put, List.setIfInBounds_toArray, List.set_cons_zero, List.set_cons_succ, i64_w, i32_w]
    rfl
  refine one_ (i := 20) (N := some 34) #[true, true, true, true, true, true, true, true, true, true, true, true, true, true, true, true, true, true, true, true, true, false, false] rfl rfl (by kernel_rfl) (by decide) (fun K hK => ?_)
  refine goes_ Tryz.func5 (by kernel_rfl) rfl #[] (by rfl) rfl rfl (by simp) ?_
  refine (WHeads.heads_c WB).mono ?_
  rintro e WC ⟨rfl, hb⟩
  refine ⟨_, rfl, ?_⟩
  have HXC := Lib.hid (blk_below HXB.out hb)
  have HYC := Lib.hid (blk_below HYB.out hb)
  have HQC := Lib.hid (Kd.C_below HQB.out hb)
  have HZC := Lib.hid (Kd.C_below HZB.out hb)
  have HBC := Lib.hid (below_step HBB.out hb)
  clear hb HXB HYB HQB HZB HBB
  refine hK.out _ _ ⟨(blk_cell HXC.out 0).trans rfl, (blk_cell HXC.out 1).trans rfl, (blk_cell HXC.out 2).trans rfl, (blk_cell HXC.out 3).trans rfl, (blk_cell HXC.out 4).trans rfl, (blk_cell HXC.out 5).trans rfl, (blk_cell HXC.out 6).trans rfl, (blk_cell HXC.out 7).trans rfl, (blk_cell HXC.out 8).trans rfl, (blk_cell HXC.out 9).trans rfl, (blk_cell HXC.out 10).trans rfl, (blk_cell HXC.out 11).trans rfl, (blk_cell HXC.out 12).trans rfl, (blk_cell HYC.out 0).trans rfl, (blk_cell HYC.out 1).trans rfl, (blk_cell HYC.out 2).trans rfl, (blk_cell HYC.out 3).trans rfl, (blk_cell HYC.out 4).trans rfl, (blk_cell HYC.out 5).trans rfl, (blk_cell HYC.out 6).trans rfl, (blk_cell HYC.out 7).trans rfl, (blk_cell HYC.out 8).trans rfl, (blk_cell HYC.out 9).trans rfl, (blk_cell HYC.out 10).trans rfl, (blk_cell HYC.out 11).trans rfl, (blk_cell HYC.out 12).trans rfl⟩ (fun hHeld => ?_)
  clear hK K
  refine norm_ (a' := ?_) ?_ ?_
  rotate_left
  · show Act.put _ (some 34) _ = _
    simp only [Act.put, List.setIfInBounds_toArray, List.set_cons_zero, List.set_cons_succ, i64_w, i32_w]
    rfl
  refine pure_ (i := 21) (N := some 35) (v := ?_) (a' := ?_) #[true, true, true, true, true, true, true, true, true, true, true, true, true, true, true, true, true, true, true, true, true, true, false] rfl rfl (by kernel_rfl) (fun _ _ _ h => h) (Or.inl ⟨by rfl, ?_⟩) ?_ ?_
  rotate_left
  · intro w'
    go_simp
    with_reducible rfl
  rotate_left
  · simp only [Act.put, List.setIfInBounds_toArray, List.set_cons_zero, List.set_cons_succ, i64_w, i32_w]
    rfl
  refine pure_ (i := 22) (N := some 4) (v := ?_) (a' := ?_) #[true, true, true, true, true, true, true, true, true, true, true, true, true, true, true, true, true, true, true, true, true, true, true] rfl rfl (by kernel_rfl) (fun _ _ _ h => h) (Or.inl ⟨by rfl, ?_⟩) ?_ ?_
  rotate_left
  · intro w'
    go_simp
    with_reducible rfl
  rotate_left
  · simp only [Act.put, List.setIfInBounds_toArray, List.set_cons_zero, List.set_cons_succ, i64_w, i32_w]
    rfl
  refine done_ (by kernel_rfl) ?_
  go_wp2_with fail
  go_ret
  exact ⟨rfl, HBC.out⟩
end Go.Proofs.YtklgecdklngekaaGreatDoor.WLaw
