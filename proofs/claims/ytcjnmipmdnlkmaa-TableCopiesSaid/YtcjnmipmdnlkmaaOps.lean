/- The arguments of the laws of layer 6: a slice of operations, opened. -/
import Derived.Test.YtcjnmipmdnlkmaaOpn
import Derived.Test.YtcjnmipmdnlkmaaQx0
namespace Go.Proofs.Ytcjnmipmdnlkmaa
open Go.RowKit Go.Proofs.YtcjnmipmdnlkmaaW.PrintWords Go.Proofs.Ytcjnmipmdnlkmaa.Opn Go.Proofs.Ytcjnmipmdnlkmaa.Q
theorem op43 : Opens Try.prog 43 k43 (fun x => (Lit.int .i64 x.f0).wf = true ∧ x.f1.size ≤ 140737488351232 ∧ x.f2.size ≤ 140737488351232) :=
  Opens.imp (op_struct (opfs_iso (fun x : S43 => (x.f0, x.f1, x.f2)) (fun y => ⟨y.1, y.2.1, y.2.2⟩) (fun _ => rfl) (opfs_cons (op_int Try.underlying3) rfl (by kernel_rfl) (opfs_cons (op_string Try.underlying9) rfl (by kernel_rfl) (opfs_one (op_string Try.underlying9) rfl (by kernel_rfl))))) Try.underlying43 (by kernel_rfl)) (fun _ h => h)
theorem op22 : Opens Try.prog 22 (Kd.slice 43 k43) (fun l => l.length * 40 ≤ 140737488351232 ∧ ∀ x ∈ l, ((Lit.int .i64 x.f0).wf = true ∧ x.f1.size ≤ 140737488351232 ∧ x.f2.size ≤ 140737488351232)) :=
  op_slice op43 Try.underlying22 (by kernel_rfl) (by kernel_rfl)
end Go.Proofs.Ytcjnmipmdnlkmaa
