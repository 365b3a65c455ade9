/- The walk of the law TableNobody: what a table that is nil tells. -/
import Derived.Test.YtcjnmipmdnlkmaaTabF
namespace Go.Proofs.Ytcjnmipmdnlkmaa.TabN
set_option linter.unusedVariables false
open Go.RowKit Go.Proofs.YtcjnmipmdnlkmaaW.PrintWords Go.Proofs.YtcjnmipmdnlkmaaW.PrintLast Go.Proofs.YtcjnmipmdnlkmaaW.PrintMore Go.Proofs.Ytcjnmipmdnlkmaa.TabP Go.Proofs.Ytcjnmipmdnlkmaa.TabE Go.Proofs.Ytcjnmipmdnlkmaa.TabC Go.Proofs.Ytcjnmipmdnlkmaa.TabD Go.Proofs.Ytcjnmipmdnlkmaa.TabF Go.Proofs.Ytcjnmipmdnlkmaa.Q
theorem put_nil (key v : ByteArray) (w : World) : Calls Try.prog 14 #[.pointer none, .string key, .string v] w fun e w' => e = .returned (.tuple #[]) ∧ w' = w := by
  go_enter Try.func14, Try.ntmps14
  go_wp2
  refine bodyPost_ret (results_none rfl _ _ _) rfl ?_
  exact ⟨rfl, rfl⟩
theorem get_nil (key : ByteArray) (w : World) : Calls Try.prog 12 #[.pointer none, .string key] w fun e w' => e = .returned (.tuple #[.string ⟨#[]⟩, .bool false]) ∧ w' = w := by
  go_enter Try.func12, Try.ntmps12
  go_wp2
  go_ret2
  exact ⟨rfl, rfl⟩
theorem key_nil (i : Int) (w : World) : Calls Try.prog 11 #[.pointer none, .int .i64 i] w fun e w' => e = .returned (.tuple #[.string ⟨#[]⟩, .bool false]) ∧ w' = w := by
  go_enter Try.func11, Try.ntmps11
  go_wp2
  go_ret2
  exact ⟨rfl, rfl⟩
theorem del_nil (key : ByteArray) (w : World) : Calls Try.prog 15 #[.pointer none, .string key] w fun e w' => e = .returned (.bool false) ∧ w' = w := by
  go_enter Try.func15, Try.ntmps15
  go_wp2
  go_ret
  exact ⟨rfl, rfl⟩
theorem len_nil (w : World) : Calls Try.prog 13 #[.pointer none] w fun e w' => e = .returned (.int .i64 0) ∧ w' = w := by
  go_enter Try.func13, Try.ntmps13
  go_wp2
  go_ret
  exact ⟨rfl, rfl⟩
theorem copy_nil (w : World) : Calls Try.prog 24 #[.pointer none] w fun e w' => e = .returned (.pointer none) ∧ w' = w := by
  go_enter Try.func24, Try.ntmps24
  go_wp2
  go_ret
  exact ⟨rfl, rfl⟩
theorem nobody_walk (key v : ByteArray) (i : Int) (w : World) :
    Calls Try.prog 8 #[.string key, .string v, .int .i64 i] w fun e w' => e = .returned (.bool true) ∧ Below w.heap.size w w' := by
  go_enter Try.func8, Try.ntmps8
  go_wp2_with fail
  refine (put_nil key v _).mono ?_
  rintro e w' ⟨rfl, rfl⟩
  go_wp2_with fail
  refine (get_nil key _).mono ?_
  rintro e w' ⟨rfl, rfl⟩
  go_wp2_with fail
  refine (key_nil i _).mono ?_
  rintro e w' ⟨rfl, rfl⟩
  go_wp2_with fail
  refine (del_nil key _).mono ?_
  rintro e w' ⟨rfl, rfl⟩
  go_wp2_with fail
  refine (len_nil _).mono ?_
  rintro e w' ⟨rfl, rfl⟩
  go_wp2_with fail
  refine (copy_nil _).mono ?_
  rintro e w' ⟨rfl, rfl⟩
  go_wp2_with fail
  refine (from21_nil key 9 _).mono ?_
  rintro e w1 ⟨A, c, rfl, hb1⟩
  have HB1 := Lib.hid hb1
  clear hb1
  go_wp2_with fail
  refine (heads_c _).mono ?_
  rintro e w2 ⟨rfl, hb2⟩
  go_wp2_with fail
  go_ret
  exact ⟨rfl, below_step HB1.out hb2⟩
end Go.Proofs.Ytcjnmipmdnlkmaa.TabN
