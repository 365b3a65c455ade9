/- problem.bad of nothing: nothing is bad. -/
import Derived.Test.YtklgecdklngekaaGreatDoorQx0
import Derived.Deep.QuietTactic
import Derived.Maps.OwnOps
namespace Go.Proofs.YtklgecdklngekaaGreatDoor.WBad
set_option linter.unusedVariables false
set_option linter.unusedSimpArgs false
open Go.RowKit Go.Maps Go.Proofs.YtklgecdklngekaaGreatDoorW.PrintWords Go.Proofs.YtklgecdklngekaaGreatDoorW.PrintLast
set_option maxHeartbeats 2000000 in
set_option maxRecDepth 100000 in
theorem noneRoom (A : Option Addr) (c : Nat) (most : Int) (nm rt : Value) (W : World) :
    Calls Tryz.prog 98 #[.slice A 0 c, .int .i64 most, nm, rt] W fun e w' => e = .returned (.tuple #[.int .i64 0, .bool false]) ∧ Below W.heap.size W w' := by
  have hmm := @run_makeMap Tryz.prog
  go_enter Tryz.func98, Tryz.ntmps98
  go_wp2
  go_loopw [16] (fun v wr => v = .int .i64 0 ∧ Hid (Below W.heap.size W wr)) (fun _ _ => 0)
  case atStart => exact ⟨rfl, below_alloc (Below.refl _ _) _⟩
  case round =>
    obtain ⟨rfl, HB⟩ := hrel
    go_wp2
    go_ret2
    exact ⟨rfl, HB.out⟩
set_option maxHeartbeats 2000000 in
set_option maxRecDepth 100000 in
theorem noneClass (A : Option Addr) (c : Nat) (most : Int) (nm rt : Value) (W : World) :
    Calls Tryz.prog 107 #[.slice A 0 c, .int .i64 most, nm, rt] W fun e w' => e = .returned (.tuple #[.int .i64 0, .bool false]) ∧ Below W.heap.size W w' := by
  have hmm := @run_makeMap Tryz.prog
  go_enter Tryz.func107, Tryz.ntmps107
  go_wp2
  go_loopw [16] (fun v wr => v = .int .i64 0 ∧ Hid (Below W.heap.size W wr)) (fun _ _ => 0)
  case atStart => exact ⟨rfl, below_alloc (Below.refl _ _) _⟩
  case round =>
    obtain ⟨rfl, HB⟩ := hrel
    go_wp2
    go_ret2
    exact ⟨rfl, HB.out⟩
set_option maxHeartbeats 2000000 in
set_option maxRecDepth 100000 in
theorem noneCourse (A : Option Addr) (c : Nat) (most : Int) (nm rt : Value) (W : World) :
    Calls Tryz.prog 111 #[.slice A 0 c, .int .i64 most, nm, rt] W fun e w' => e = .returned (.tuple #[.int .i64 0, .bool false]) ∧ Below W.heap.size W w' := by
  have hmm := @run_makeMap Tryz.prog
  go_enter Tryz.func111, Tryz.ntmps111
  go_wp2
  go_loopw [16] (fun v wr => v = .int .i64 0 ∧ Hid (Below W.heap.size W wr)) (fun _ _ => 0)
  case atStart => exact ⟨rfl, below_alloc (Below.refl _ _) _⟩
  case round =>
    obtain ⟨rfl, HB⟩ := hrel
    go_wp2
    go_ret2
    exact ⟨rfl, HB.out⟩
set_option maxHeartbeats 2000000 in
set_option maxRecDepth 100000 in
theorem noneStudent (A : Option Addr) (c : Nat) (most : Int) (nm rt : Value) (W : World) :
    Calls Tryz.prog 115 #[.slice A 0 c, .int .i64 most, nm, rt] W fun e w' => e = .returned (.tuple #[.int .i64 0, .bool false]) ∧ Below W.heap.size W w' := by
  have hmm := @run_makeMap Tryz.prog
  go_enter Tryz.func115, Tryz.ntmps115
  go_wp2
  go_loopw [16] (fun v wr => v = .int .i64 0 ∧ Hid (Below W.heap.size W wr)) (fun _ _ => 0)
  case atStart => exact ⟨rfl, below_alloc (Below.refl _ _) _⟩
  case round =>
    obtain ⟨rfl, HB⟩ := hrel
    go_wp2
    go_ret2
    exact ⟨rfl, HB.out⟩
set_option maxHeartbeats 2000000 in
set_option maxRecDepth 100000 in
theorem noneRule (A : Option Addr) (c : Nat) (most : Int) (nm rt : Value) (W : World) :
    Calls Tryz.prog 119 #[.slice A 0 c, .int .i64 most, nm, rt] W fun e w' => e = .returned (.tuple #[.int .i64 0, .bool false]) ∧ Below W.heap.size W w' := by
  have hmm := @run_makeMap Tryz.prog
  go_enter Tryz.func119, Tryz.ntmps119
  go_wp2
  go_loopw [16] (fun v wr => v = .int .i64 0 ∧ Hid (Below W.heap.size W wr)) (fun _ _ => 0)
  case atStart => exact ⟨rfl, below_alloc (Below.refl _ _) _⟩
  case round =>
    obtain ⟨rfl, HB⟩ := hrel
    go_wp2
    go_ret2
    exact ⟨rfl, HB.out⟩
end Go.Proofs.YtklgecdklngekaaGreatDoor.WBad
