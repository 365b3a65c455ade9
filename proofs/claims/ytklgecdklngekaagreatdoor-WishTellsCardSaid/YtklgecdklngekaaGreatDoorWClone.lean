/- slices.Clone of nil is nil. -/
import Derived.Test.YtklgecdklngekaaGreatDoorQx0
import Derived.Deep.QuietTactic
import Derived.Lib.SliceRun
namespace Go.Proofs.YtklgecdklngekaaGreatDoor.WClone
set_option linter.unusedVariables false
set_option linter.unusedSimpArgs false
open Go.RowKit Go.Proofs.YtklgecdklngekaaGreatDoorW.PrintWords Go.Proofs.YtklgecdklngekaaGreatDoorW.PrintLast
theorem nilRoom (W : World) : Calls Tryz.prog 65 #[.slice none 0 0] W fun e w' => e = .returned (.slice none 0 0) ∧ w' = W := by
  have q : ∀ (w : World) (a : Option Addr) (n c n' c' : Nat), (binOp .eql 41 (.slice a n c) (.slice none n' c')).run Tryz.prog w = .ok (.bool a.isNone) w := fun w a n c n' c' => Lib.run_eql_slice_nil w _ _ a n c n' c' Tryz.underlying41
  go_enter Tryz.func65, Tryz.ntmps65
  go_wp2
  go_ret
  exact ⟨rfl, rfl⟩
theorem nilClass (W : World) : Calls Tryz.prog 69 #[.slice none 0 0] W fun e w' => e = .returned (.slice none 0 0) ∧ w' = W := by
  have q : ∀ (w : World) (a : Option Addr) (n c n' c' : Nat), (binOp .eql 43 (.slice a n c) (.slice none n' c')).run Tryz.prog w = .ok (.bool a.isNone) w := fun w a n c n' c' => Lib.run_eql_slice_nil w _ _ a n c n' c' Tryz.underlying43
  go_enter Tryz.func69, Tryz.ntmps69
  go_wp2
  go_ret
  exact ⟨rfl, rfl⟩
theorem nilCourse (W : World) : Calls Tryz.prog 73 #[.slice none 0 0] W fun e w' => e = .returned (.slice none 0 0) ∧ w' = W := by
  have q : ∀ (w : World) (a : Option Addr) (n c n' c' : Nat), (binOp .eql 44 (.slice a n c) (.slice none n' c')).run Tryz.prog w = .ok (.bool a.isNone) w := fun w a n c n' c' => Lib.run_eql_slice_nil w _ _ a n c n' c' Tryz.underlying44
  go_enter Tryz.func73, Tryz.ntmps73
  go_wp2
  go_ret
  exact ⟨rfl, rfl⟩
theorem nilStudent (W : World) : Calls Tryz.prog 75 #[.slice none 0 0] W fun e w' => e = .returned (.slice none 0 0) ∧ w' = W := by
  have q : ∀ (w : World) (a : Option Addr) (n c n' c' : Nat), (binOp .eql 45 (.slice a n c) (.slice none n' c')).run Tryz.prog w = .ok (.bool a.isNone) w := fun w a n c n' c' => Lib.run_eql_slice_nil w _ _ a n c n' c' Tryz.underlying45
  go_enter Tryz.func75, Tryz.ntmps75
  go_wp2
  go_ret
  exact ⟨rfl, rfl⟩
theorem nilRule (W : World) : Calls Tryz.prog 76 #[.slice none 0 0] W fun e w' => e = .returned (.slice none 0 0) ∧ w' = W := by
  have q : ∀ (w : World) (a : Option Addr) (n c n' c' : Nat), (binOp .eql 46 (.slice a n c) (.slice none n' c')).run Tryz.prog w = .ok (.bool a.isNone) w := fun w a n c n' c' => Lib.run_eql_slice_nil w _ _ a n c n' c' Tryz.underlying46
  go_enter Tryz.func76, Tryz.ntmps76
  go_wp2
  go_ret
  exact ⟨rfl, rfl⟩
theorem nilWhen (W : World) : Calls Tryz.prog 66 #[.slice none 0 0] W fun e w' => e = .returned (.slice none 0 0) ∧ w' = W := by
  have q : ∀ (w : World) (a : Option Addr) (n c n' c' : Nat), (binOp .eql 37 (.slice a n c) (.slice none n' c')).run Tryz.prog w = .ok (.bool a.isNone) w := fun w a n c n' c' => Lib.run_eql_slice_nil w _ _ a n c n' c' Tryz.underlying37
  go_enter Tryz.func66, Tryz.ntmps66
  go_wp2
  go_ret
  exact ⟨rfl, rfl⟩
theorem nilRows (W : World) : Calls Tryz.prog 123 #[.slice none 0 0] W fun e w' => e = .returned (.slice none 0 0) ∧ w' = W := by
  have q : ∀ (w : World) (a : Option Addr) (n c n' c' : Nat), (binOp .eql 42 (.slice a n c) (.slice none n' c')).run Tryz.prog w = .ok (.bool a.isNone) w := fun w a n c n' c' => Lib.run_eql_slice_nil w _ _ a n c n' c' Tryz.underlying42
  go_enter Tryz.func123, Tryz.ntmps123
  go_wp2
  go_ret
  exact ⟨rfl, rfl⟩
set_option maxHeartbeats 2000000 in
theorem rows0 (W : World) : Calls Tryz.prog 67 #[.slice none 0 0] W fun e w' => e = .returned (.slice none 0 0) ∧ Below W.heap.size W w' := by
  go_enter Tryz.func67, Tryz.ntmps67
  go_wp2_with (go_at_call 123; refine (nilRows _).mono ?_; rintro e W ⟨rfl, rfl⟩)
  go_loopw [9] (fun v wr => v = .int .i64 0 ∧ Hid (Below W.heap.size W wr)) (fun _ _ => 0)
  case atStart => exact ⟨rfl, Below.refl _ _⟩
  case round =>
    obtain ⟨rfl, HB⟩ := hrel
    go_wp2
    go_ret
    exact ⟨rfl, HB.out⟩
theorem infoPerson : (Tryz.prog.info? 39).map (fun i => (i.zero, i.size, i.bytes)) = some (some (.agg #[.string ⟨#[]⟩, .slice none 0 0]), 2, 40) := by kernel_rfl
theorem infoWhen : (Tryz.prog.info? 25).map (fun i => (i.zero, i.size, i.bytes)) = some (some (.agg #[.int .u32 0, .int .u8 0, .int .i64 0, .int .i64 0]), 4, 24) := by kernel_rfl
set_option maxHeartbeats 2000000 in
set_option maxRecDepth 100000 in
theorem onePerson (pb c : Nat) (s : ByteArray) (v : Value) (hv : v.oneCell' = true) (W : World) (h0 : W.cell? ⟨pb, 0, none⟩ = some (.string s)) (h1 : W.cell? ⟨pb, 1, none⟩ = some v) :
    Calls Tryz.prog 68 #[.slice (some ⟨pb, 0, none⟩) 1 c] W fun e w' => ∃ v', e = .returned v' ∧ w'.ownsRow W.heap.size 39 2 v' 1 [.string s, v] ∧ Below W.heap.size W w' := by
  have q : ∀ (w : World) (a : Option Addr) (n c n' c' : Nat), (binOp .eql 40 (.slice a n c) (.slice none n' c')).run Tryz.prog w = .ok (.bool a.isNone) w := fun w a n c n' c' => Lib.run_eql_slice_nil w _ _ a n c n' c' Tryz.underlying40
  go_enter Tryz.func68, Tryz.ntmps68
  obtain ⟨i0, hi, hz0, hz1, hz2⟩ := info_parts infoPerson
  have hcell : ∀ j u, [Value.string s, v][j]? = some u → (W.alloc (.cells #[] 39)).cell? ((⟨pb, 0, none⟩ : Addr).add j) = some u := by
    intro j u hj
    match j, hj with
    | 0, hj =>
      have : Value.string s = u := by simpa using hj
      rw [← this]
      exact Lib.cell?_alloc_some _ h0
    | 1, hj =>
      have : v = u := by simpa using hj
      rw [← this]
      exact Lib.cell?_alloc_some _ h1
    | j + 2, hj => simp at hj
  have Hc := Lib.hid hcell
  clear hcell h0 h1
  go_wp2_with (at_builtin; refine wpList_append_own _ rfl (.tmp 5) (.tmp 6) 40 rfl W.heap.size 39 i0 (.agg #[.string ⟨#[]⟩, .slice none 0 0]) 2 40 Tryz.underlying40 hi hz0 hz1 hz2 rfl (by decide) _ _ _ rfl (World.ownsRow_made W #[] 0 (Nat.le_refl _) (Nat.zero_le _) (by simp)) ⟨pb, 0, none⟩ 1 c [.string s, v] rfl ?qc1 ?qc2 ?qc3 ?qc4 ?qc5 ?qc6 ?_)
  case qc1 => rfl
  case qc2 => exact Hc.out
  case qc3 =>
    intro u hu
    rcases List.mem_cons.1 hu with rfl | hu
    · rfl
    · rw [List.mem_singleton.1 hu]; exact hv
  case qc4 => unfold maxLen; omega
  case qc5 => omega
  case qc6 => simp
  intro v' w1 hown hgrow hnil
  go_wp2
  go_ret
  refine ⟨v', rfl, by simpa using hown, ?_⟩
  exact ((Below.refl _ W).alloc (Nat.le_refl _) _).grown hgrow (by simp) (by intro k hk; simp [Value.ownBlock] at hk; omega)
theorem cell_of {W : World} {o : Obj} {pb : Nat} {l : List Value} (h : ∀ j u, l[j]? = some u → W.cell? ⟨pb, j, none⟩ = some u) : ∀ j u, l[j]? = some u → (W.alloc o).cell? ((⟨pb, 0, none⟩ : Addr).add j) = some u := by
  intro j u hj
  have h2 : (W.alloc o).cell? ⟨pb, j, none⟩ = some u := Lib.cell?_alloc_some _ (h j u hj)
  unfold Addr.add
  split
  · rename_i e; subst e; exact h2
  · rw [Nat.zero_add]; exact h2
set_option maxHeartbeats 2000000 in
set_option maxRecDepth 100000 in
theorem oneWhen (pb c : Nat) (l : List Value) (hl : l.length = 4) (h1 : ∀ u ∈ l, u.oneCell' = true) (W : World) (h0 : ∀ j u, l[j]? = some u → W.cell? ⟨pb, j, none⟩ = some u) :
    Calls Tryz.prog 66 #[.slice (some ⟨pb, 0, none⟩) 1 c] W fun e w' => ∃ v', e = .returned v' ∧ w'.ownsRow W.heap.size 25 4 v' 1 l ∧ Below W.heap.size W w' := by
  have q : ∀ (w : World) (a : Option Addr) (n c n' c' : Nat), (binOp .eql 37 (.slice a n c) (.slice none n' c')).run Tryz.prog w = .ok (.bool a.isNone) w := fun w a n c n' c' => Lib.run_eql_slice_nil w _ _ a n c n' c' Tryz.underlying37
  go_enter Tryz.func66, Tryz.ntmps66
  obtain ⟨i0, hi, hz0, hz1, hz2⟩ := info_parts infoWhen
  have Hc := Lib.hid (cell_of (o := .cells #[] 25) h0)
  have H1 := Lib.hid h1
  have Hl := Lib.hid hl
  clear h0 h1 hl
  go_wp2_with (at_builtin; refine wpList_append_own _ rfl (.tmp 5) (.tmp 6) 37 rfl W.heap.size 25 i0 (.agg #[.int .u32 0, .int .u8 0, .int .i64 0, .int .i64 0]) 4 24 Tryz.underlying37 hi hz0 hz1 hz2 rfl (by decide) _ _ _ rfl (World.ownsRow_made W #[] 0 (Nat.le_refl _) (Nat.zero_le _) (by simp)) ⟨pb, 0, none⟩ 1 c l rfl ?qc1 ?qc2 ?qc3 ?qc4 ?qc5 ?qc6 ?_)
  case qc1 => rw [Hl.out]
  case qc2 => exact Hc.out
  case qc3 => exact H1.out
  case qc4 => unfold maxLen; omega
  case qc5 => omega
  case qc6 => simp
  intro v' w1 hown hgrow hnil
  go_wp2
  go_ret
  refine ⟨v', rfl, by simpa using hown, ?_⟩
  exact ((Below.refl _ W).alloc (Nat.le_refl _) _).grown hgrow (by simp) (by intro k hk; simp [Value.ownBlock] at hk; omega)
end Go.Proofs.YtklgecdklngekaaGreatDoor.WClone
