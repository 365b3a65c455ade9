/- slices.Index of times, person.Leave of a person without times, wish.back of nothing: at the chapter's example. -/
import Derived.Test.YtklgecdklngekaaGreatDoorWExm
import Derived.WalkSmall
namespace Go.Proofs.YtklgecdklngekaaGreatDoor.WIx
set_option linter.unusedVariables false
set_option linter.unusedSimpArgs false
open Go.RowKit Go.Proofs.YtklgecdklngekaaGreatDoorW.PrintWords Go.Proofs.YtklgecdklngekaaGreatDoorW.PrintLast Go.Proofs.YtklgecdklngekaaGreatDoor.Q Go.Proofs.YtklgecdklngekaaGreatDoor.WPers Go.Proofs.YtklgecdklngekaaGreatDoor.WExm
attribute [local go_sem high] eqA25
def wh : Value := .agg #[.int .u32 7, .int .u8 1, .int .i64 16, .int .i64 4]
theorem index0 (A : Option Addr) (c : Nat) (W : World) : Calls Tryz.prog 131 #[.slice A 0 c, wh] W fun e w' => e = .returned (.int .i64 (-1)) ∧ Below W.heap.size W w' := by
  have hu25 := Tryz.underlying25
  unfold wh
  go_enter Tryz.func131, Tryz.ntmps131
  go_wp2
  go_loopw [8] (fun v wr => v = .int .i64 0 ∧ Hid (Below W.heap.size W wr)) (fun _ _ => 0)
  case atStart => exact ⟨rfl, below_alloc (Below.refl _ _) _⟩
  case round =>
    obtain ⟨rfl, HB⟩ := hrel
    go_wp2
    go_ret
    exact ⟨rfl, HB.out⟩
set_option maxHeartbeats 2000000 in
set_option maxRecDepth 100000 in
theorem index1 (tb c : Nat) (r : Array Value) (W : World) (hw : WB W tb r) : Calls Tryz.prog 131 #[.slice (some ⟨tb, 0, none⟩) 1 c, wh] W fun e w' => e = .returned (.int .i64 0) ∧ Below W.heap.size W w' := by
  have hu25 := Tryz.underlying25
  have HW := Lib.hid hw
  clear hw
  unfold wh
  go_enter Tryz.func131, Tryz.ntmps131
  go_wp2
  go_loopw [8] (fun v wr => v = .int .i64 0 ∧ Hid (Below W.heap.size W wr) ∧ Hid (wr.heap[W.heap.size]? = some (.cells #[.int .u32 7, .int .u8 1, .int .i64 16, .int .i64 4] 25 (0, 0)))) (fun _ _ => 0)
  case atStart => exact ⟨rfl, below_alloc (Below.refl _ _) _, blk_new W _⟩
  case round =>
    obtain ⟨rfl, HB, HK⟩ := hrel
    obtain ⟨c0, c1, c2, c3⟩ := (HW.out.below HB.out).cells
    have k0 : wr.cell? ⟨W.heap.size, 0, none⟩ = some (.int .u32 7) := (blk_cell HK.out 0).trans rfl
    have k1 : wr.cell? ⟨W.heap.size, 1, none⟩ = some (.int .u8 1) := (blk_cell HK.out 1).trans rfl
    have k2 : wr.cell? ⟨W.heap.size, 2, none⟩ = some (.int .i64 16) := (blk_cell HK.out 2).trans rfl
    have k3 : wr.cell? ⟨W.heap.size, 3, none⟩ = some (.int .i64 4) := (blk_cell HK.out 3).trans rfl
    go_wp2_with fail
    go_quiet (fail)
    go_wp2
    go_ret
    refine ⟨rfl, ?_⟩
    exact below_drewN HB.out _
end Go.Proofs.YtklgecdklngekaaGreatDoor.WIx
