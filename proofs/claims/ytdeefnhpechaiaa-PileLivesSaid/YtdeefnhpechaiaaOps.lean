/- The arguments of the laws of layer 7: a slice of operations, opened. -/
import Derived.Test.YtdeefnhpechaiaaOpn
import Derived.Test.YtdeefnhpechaiaaQx0
namespace Go.Proofs.Ytdeefnhpechaiaa
open Go.RowKit Go.Proofs.YtdeefnhpechaiaaW.PrintWords Go.Proofs.Ytdeefnhpechaiaa.Opn Go.Proofs.Ytdeefnhpechaiaa.Q
theorem op28 : Opens Try.prog 28 k28 (fun x => (Lit.int .i64 x.f0).wf = true ∧ (Lit.int .i64 x.f1).wf = true ∧ (Lit.int .i64 x.f2).wf = true) :=
  Opens.imp (op_struct (opfs_iso (fun x : S28 => (x.f0, x.f1, x.f2)) (fun y => ⟨y.1, y.2.1, y.2.2⟩) (fun _ => rfl) (opfs_cons (op_int Try.underlying3) rfl (by kernel_rfl) (opfs_cons (op_int Try.underlying3) rfl (by kernel_rfl) (opfs_one (op_int Try.underlying3) rfl (by kernel_rfl))))) Try.underlying28 (by kernel_rfl)) (fun _ h => h)
theorem op22 : Opens Try.prog 22 (Kd.slice 28 k28) (fun l => l.length * 24 ≤ 140737488351232 ∧ ∀ x ∈ l, ((Lit.int .i64 x.f0).wf = true ∧ (Lit.int .i64 x.f1).wf = true ∧ (Lit.int .i64 x.f2).wf = true)) :=
  op_slice op28 Try.underlying22 (by kernel_rfl) (by kernel_rfl)
end Go.Proofs.Ytdeefnhpechaiaa
