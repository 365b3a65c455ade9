/- wish.Right, of any wish: what it answers. -/
import Derived.Test.YtklgecdklngekaaGreatDoorQx2
import Derived.Deep.QuietTactic
namespace Go.Proofs.YtklgecdklngekaaGreatDoor.WRight
set_option linter.unusedVariables false
set_option linter.unusedSimpArgs false
open Go.RowKit Go.Proofs.YtklgecdklngekaaGreatDoorW.PrintWords Go.Proofs.YtklgecdklngekaaGreatDoorW.PrintLast Go.Proofs.YtklgecdklngekaaGreatDoor.Q
attribute [local go_sem high] eqA25
def none_ (rk : Int) (l : List Int) (ra rb : Int) (hd : Bool) (cost : Int) : Bool := decide (rk = 0 ∧ l = [] ∧ ra = 0 ∧ rb = 0 ∧ hd = false ∧ cost = 0)
theorem none_ev (rk : Int) (l : List Int) (ra rb : Int) (hd : Bool) (cost : Int) : ∃ k, wish_sameRule.f k rk l ra rb hd cost 0 [] 0 0 false 0 = some (none_ rk l ra rb hd cost) := by
  refine ⟨1, ?_⟩
  have hq : slices_Equal_int_int.f 1 l [] = some (decide (l = [])) := by
    unfold slices_Equal_int_int.f
    cases l with
    | nil => rfl
    | cons x m => rw [if_neg (by simp; omega)]; rfl
  unfold wish_sameRule.f none_
  rw [hq]
  simp only [Option.bind_some]
  by_cases h1 : rk = 0
  · rw [if_pos h1]
    by_cases h2 : l = []
    · rw [if_pos (by simpa using h2)]
      by_cases h3 : ra = 0
      · rw [if_pos h3]
        by_cases h4 : rb = 0
        · rw [if_pos h4]
          cases hd
          · rw [if_pos (show (false == false) = true from rfl)]
            congr 1
            by_cases h5 : cost = 0
            · simp [h1, h2, h3, h4, h5]
            · simp [h5]
          · rw [if_neg (by decide)]
            simp
        · rw [if_neg h4]; simp [h4]
      · rw [if_neg h3]; simp [h3]
    · rw [if_neg (by simpa using h2)]; simp [h2]
  · rw [if_neg h1]; simp [h1]
def right (r2 r3 r4 r5 r6 : Bool) (idx n wk dy st ln : Int) (same : Bool) : Bool := r6 && (r2 || decide (idx = 0)) && (r3 || decide (n = 0)) && (r4 || decide (wk = 0 ∧ dy = 0 ∧ st = 0 ∧ ln = 0)) && (r5 || same)
set_option maxHeartbeats 4000000 in
set_option maxRecDepth 100000 in
theorem right_c (kind idx n wk dy st ln rk : Int) (A : Option Addr) (c : Nat) (l : List Int) (ra rb : Int) (hd : Bool) (cost : Int) (W : World) (hr : Kd.C (Kd.int .i64) W A l.length l) (hc : l.length ≤ c)
    (r1 : ByteArray) (r2 r3 r4 r5 r6 : Bool) (hf : wish_formOf.f kind = some (r1, r2, r3, r4, r5, r6)) :
    Calls Tryz.prog 6 #[.agg #[.int .i64 kind, .int .i64 idx, .int .i64 n, .int .u32 wk, .int .u8 dy, .int .i64 st, .int .i64 ln, .int .i64 rk, .slice A l.length c, .int .i64 ra, .int .i64 rb, .bool hd, .int .i64 cost]] W
      fun e w' => e = .returned (.bool (right r2 r3 r4 r5 r6 idx n wk dy st ln (none_ rk l ra rb hd cost))) ∧ Below W.heap.size W w' := by
  have Hf := Lib.hid hf
  have HR := Lib.hid hr
  have Hc := Lib.hid hc
  have hu31 := Tryz.underlying31
  have hu61 := Tryz.underlying61
  clear hf hr hc
  go_enter Tryz.func6, Tryz.ntmps6
  go_wp2_with fail
  have hb1 : Below W.heap.size W (W.alloc (.cells #[.int .i64 kind, .int .i64 idx, .int .i64 n, .int .u32 wk, .int .u8 dy, .int .i64 st, .int .i64 ln, .int .i64 rk, .slice A l.length c, .int .i64 ra, .int .i64 rb, .bool hd, .int .i64 cost] 31)) := below_alloc (Below.refl _ _) _
  have hk1 := blk_new W (.cells #[.int .i64 kind, .int .i64 idx, .int .i64 n, .int .u32 wk, .int .u8 dy, .int .i64 st, .int .i64 ln, .int .i64 rk, .slice A l.length c, .int .i64 ra, .int .i64 rb, .bool hd, .int .i64 cost] 31)
  have HB1 := Lib.hid hb1
  have HK1 := Lib.hid hk1
  clear hb1 hk1
  generalize W.alloc (.cells #[.int .i64 kind, .int .i64 idx, .int .i64 n, .int .u32 wk, .int .u8 dy, .int .i64 st, .int .i64 ln, .int .i64 rk, .slice A l.length c, .int .i64 ra, .int .i64 rb, .bool hd, .int .i64 cost] 31) = W1 at *
  generalize hg : W.heap.size = g at *
  refine (wish_formOf.calls _ _ _ _ _ _ _ W1 Hf.out).mono ?_
  rintro e W2 ⟨rfl, hb2⟩
  have hk2 := blk_below HK1.out hb2
  have hk3 : ∀ o : Obj, (W2.alloc o).heap[g]? = some (.cells #[.int .i64 kind, .int .i64 idx, .int .i64 n, .int .u32 wk, .int .u8 dy, .int .i64 st, .int .i64 ln, .int .i64 rk, .slice A l.length c, .int .i64 ra, .int .i64 rb, .bool hd, .int .i64 cost] 31 (0, 0)) := fun o => blk_alloc hk2 o
  have q0 : ∀ o : Obj, (W2.alloc o).cell? ⟨g, 0, none⟩ = some (.int .i64 kind) := fun o => (blk_cell (hk3 o) 0).trans rfl
  have q1 : ∀ o : Obj, (W2.alloc o).cell? ⟨g, 1, none⟩ = some (.int .i64 idx) := fun o => (blk_cell (hk3 o) 1).trans rfl
  have q2 : ∀ o : Obj, (W2.alloc o).cell? ⟨g, 2, none⟩ = some (.int .i64 n) := fun o => (blk_cell (hk3 o) 2).trans rfl
  have q3 : ∀ o : Obj, (W2.alloc o).cell? ⟨g, 3, none⟩ = some (.int .u32 wk) := fun o => (blk_cell (hk3 o) 3).trans rfl
  have q4 : ∀ o : Obj, (W2.alloc o).cell? ⟨g, 4, none⟩ = some (.int .u8 dy) := fun o => (blk_cell (hk3 o) 4).trans rfl
  have q5 : ∀ o : Obj, (W2.alloc o).cell? ⟨g, 5, none⟩ = some (.int .i64 st) := fun o => (blk_cell (hk3 o) 5).trans rfl
  have q6 : ∀ o : Obj, (W2.alloc o).cell? ⟨g, 6, none⟩ = some (.int .i64 ln) := fun o => (blk_cell (hk3 o) 6).trans rfl
  have q7 : ∀ o : Obj, (W2.alloc o).cell? ⟨g, 7, none⟩ = some (.int .i64 rk) := fun o => (blk_cell (hk3 o) 7).trans rfl
  have q8 : ∀ o : Obj, (W2.alloc o).cell? ⟨g, 8, none⟩ = some (.slice A l.length c) := fun o => (blk_cell (hk3 o) 8).trans rfl
  have q9 : ∀ o : Obj, (W2.alloc o).cell? ⟨g, 9, none⟩ = some (.int .i64 ra) := fun o => (blk_cell (hk3 o) 9).trans rfl
  have q10 : ∀ o : Obj, (W2.alloc o).cell? ⟨g, 10, none⟩ = some (.int .i64 rb) := fun o => (blk_cell (hk3 o) 10).trans rfl
  have q11 : ∀ o : Obj, (W2.alloc o).cell? ⟨g, 11, none⟩ = some (.bool hd) := fun o => (blk_cell (hk3 o) 11).trans rfl
  have q12 : ∀ o : Obj, (W2.alloc o).cell? ⟨g, 12, none⟩ = some (.int .i64 cost) := fun o => (blk_cell (hk3 o) 12).trans rfl
  have HB2 : Hid (Below g W W2) := by
    rw [← hg]
    rw [← hg] at HB1
    exact below_step HB1.out hb2
  obtain ⟨ks, hks⟩ := none_ev rk l ra rb hd cost
  have Hks := Lib.hid hks
  have HRa : ∀ o : Obj, Kd.C (Kd.int .i64) (W2.alloc o) A l.length l := fun o => by
    have h1 := Kd.C_below HR.out (by rw [hg]; exact HB2.out)
    exact Kd.C_alloc h1 o
  have HRA := Lib.hid HRa
  clear hks HRa hk2 hk3 hb2
  have HB3 : Hid (Below W.heap.size W W2) := by show Below W.heap.size W W2; rw [hg]; exact HB2.out
  have hgs : W.heap.size ≤ W2.heap.size := HB3.out.size
  have key : ∀ b : Bool, b = right r2 r3 r4 r5 r6 idx n wk dy st ln (none_ rk l ra rb hd cost) → Ending.returned (.bool b) = Ending.returned (.bool (right r2 r3 r4 r5 r6 idx n wk dy st ln (none_ rk l ra rb hd cost))) := fun b e => by rw [e]
  have Key := Lib.hid key
  clear key
  go_wp2_with fail
  all_goals first
    | (go_ret; refine ⟨Key.out _ ?_, HB3.out.alloc hgs _⟩; simp_all [right]; done)
    | (refine (wish_sameRule.calls ks rk A c l ra rb hd cost 0 none 0 [] 0 0 false 0 _ _ (HRA.out _) Hc.out (Kd.C_nil _ _) (Nat.le_refl _) Hks.out).mono ?_; rintro e w5 ⟨rfl, hb5⟩; go_wp2_with fail; go_ret; refine ⟨Key.out _ ?_, below_step (HB3.out.alloc hgs _) hb5⟩; simp_all [right]; done)
    | trace_state
end Go.Proofs.YtklgecdklngekaaGreatDoor.WRight
