/- The arguments of the law: a wish, opened. -/
import Derived.Test.YtklgecdklngekaaGreatDoorOpn
import Derived.Test.YtklgecdklngekaaGreatDoorQx0
namespace Go.Proofs.YtklgecdklngekaaGreatDoor.WOps
set_option linter.unusedVariables false
open Go.RowKit Go.Proofs.YtklgecdklngekaaGreatDoorW.PrintWords Go.Proofs.YtklgecdklngekaaGreatDoor.Opn Go.Proofs.YtklgecdklngekaaGreatDoor.Q Go.ChangeShapes Go.WideShapes
abbrev kWhen : Kd (Int × Int × Int × Int) := Kd.pair (Kd.int .u32) (Kd.pair (Kd.int .u8) (Kd.pair (Kd.int .i64) (Kd.int .i64)))
abbrev kRule : Kd (Int × List Int × Int × Int × Bool × Int) := Kd.pair (Kd.int .i64) (Kd.pair (Kd.slice 3 (Kd.int .i64)) (Kd.pair (Kd.int .i64) (Kd.pair (Kd.int .i64) (Kd.pair Kd.bool (Kd.int .i64)))))
abbrev kWish : Kd (Int × Int × Int × (Int × Int × Int × Int) × (Int × List Int × Int × Int × Bool × Int)) := Kd.pair (Kd.int .i64) (Kd.pair (Kd.int .i64) (Kd.pair (Kd.int .i64) (Kd.pair kWhen kRule)))
set_option maxRecDepth 100000 in
theorem opWhen : Opens Tryz.prog 25 kWhen (fun _ => True) :=
  Opens.imp (op_struct (opfs_cons (op_int Tryz.underlying23) rfl (by kernel_rfl) (opfs_cons (op_int Tryz.underlying5) rfl (by kernel_rfl) (opfs_cons (op_int Tryz.underlying3) rfl (by kernel_rfl) (opfs_one (op_int Tryz.underlying3) rfl (by kernel_rfl))))) Tryz.underlying25 (by kernel_rfl)) (fun _ _ => trivial)
set_option maxRecDepth 100000 in
theorem opRule : Opens Tryz.prog 29 kRule (fun _ => True) :=
  Opens.imp (op_struct (opfs_cons (op_int Tryz.underlying26) rfl (by kernel_rfl) (opfs_cons (op_slice (B := 8) (op_int Tryz.underlying3) Tryz.underlying27 (by kernel_rfl) (by kernel_rfl)) rfl (by kernel_rfl) (opfs_cons (op_int Tryz.underlying3) rfl (by kernel_rfl) (opfs_cons (op_int Tryz.underlying3) rfl (by kernel_rfl) (opfs_cons (op_bool Tryz.underlying4) rfl (by kernel_rfl) (opfs_one (op_int Tryz.underlying3) rfl (by kernel_rfl))))))) Tryz.underlying29 (by kernel_rfl)) (fun _ _ => trivial)
set_option maxRecDepth 100000 in
theorem opWish : Opens Tryz.prog 31 kWish (fun _ => True) :=
  Opens.imp (op_struct (opfs_cons (op_int Tryz.underlying22) rfl (by kernel_rfl) (opfs_cons (op_int Tryz.underlying3) rfl (by kernel_rfl) (opfs_cons (op_int Tryz.underlying3) rfl (by kernel_rfl) (opfs_cons opWhen rfl (by kernel_rfl) (opfs_one opRule rfl (by kernel_rfl)))))) Tryz.underlying31 (by kernel_rfl)) (fun _ _ => trivial)
set_option maxRecDepth 100000 in
theorem arg_wish {H : Type} {enc : TypeId × Value → H} {w : World} {base : Nat} {spare : Nat → Bool} {held : Bool} {v : Value} {dd : DataW H} {ps : List MemPlace} {ts : List TypeId} {ds : List (DataW H)} {j : Nat} {r : Reach} {b0 : Nat}
    (hok : Value.okWide Tryz.prog w r b0 31 v) (hsz : (DataW.weightsEach Tryz.prog ts ds).all (· ≤ reachBytes) = true) (ht : ts[j]? = some 31) (hd : ds[j]? = some dd) (h : DataW.Trod enc Tryz.prog w base spare held 31 v dd ps) :
    ∃ (a0 a1 a2 a3 a4 a5 a6 a7 a9 a10 a12 : Int) (a11 : Bool) (A : Option Addr) (c : Nat) (l : List Int), v = .agg #[.int .i64 a0, .int .i64 a1, .int .i64 a2, .int .u32 a3, .int .u8 a4, .int .i64 a5, .int .i64 a6, .int .i64 a7, .slice A l.length c, .int .i64 a9, .int .i64 a10, .bool a11, .int .i64 a12] ∧
      Kd.C (Kd.int .i64) w A l.length l ∧ l.length ≤ c := by
  obtain ⟨cs, rfl, _⟩ := okWide_struct Tryz.underlying31 hok
  obtain ⟨⟨a0, a1, a2, ⟨a3, a4, a5, a6⟩, a7, l, a9, a10, a11, a12⟩, hK, _⟩ := op_arg opWish hsz ht hd h
  obtain ⟨_, _, e, rfl, _, _, rfl, rfl, _, _, rfl, rfl, _, _, rfl, ⟨_, _, rfl, rfl, _, _, rfl, rfl, _, _, rfl, rfl, rfl⟩, _, _, rfl, rfl, _, _, rfl, ⟨A, c, rfl, hlc, hC⟩, _, _, rfl, rfl, _, _, rfl, rfl, _, _, rfl, rfl, rfl⟩ := hK
  refine ⟨a0, a1, a2, a3, a4, a5, a6, a7, a9, a10, a12, a11, A, c, l, ?_, hC, hlc⟩
  congr 1
  apply Array.toList_inj.1
  simpa [Value.cells] using e
end Go.Proofs.YtklgecdklngekaaGreatDoor.WOps
