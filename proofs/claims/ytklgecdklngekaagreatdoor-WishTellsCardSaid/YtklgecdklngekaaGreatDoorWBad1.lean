/- problem.bad of one person. -/
import Derived.Test.YtklgecdklngekaaGreatDoorWPers
import Derived.Maps.OwnSet
namespace Go.Proofs.YtklgecdklngekaaGreatDoor.WBad1
set_option linter.unusedVariables false
set_option linter.unusedSimpArgs false
open Go.RowKit Go.Maps Go.Proofs.YtklgecdklngekaaGreatDoorW.PrintWords Go.Proofs.YtklgecdklngekaaGreatDoorW.PrintLast Go.Proofs.YtklgecdklngekaaGreatDoor.Q
theorem equalIn_func_nil {P : Program} (W : World) (d : Nat) (t : TypeId) {ps rs : Array TypeId} {vd : Bool} (h : P.underlying t = some (.func ps rs vd)) (f : Fn) (a b : Array Value) : (Op.equalIn (d + 1) t (.func f a b) .nilFunc).run P W = .ok false W := by
  simp [Op.equalIn, run_underlying h]
theorem neq_func (f : Fn) (a b : Array Value) (W : World) : Sem.run Tryz.prog (binOp .neq 190 (.func f a b) .nilFunc) W = .ok (.bool true) W := by
  have : (Op.equal 190 (.func f a b) .nilFunc).run Tryz.prog W = .ok false W := equalIn_func_nil W 9999 _ Tryz.underlying190 f a b
  simp [binOp, go_sem, this]
theorem owns_below {W W1 : World} {R : Value → Option (DataW Unit × List MemPlace)} {b n : Nat} {D : DataW Unit} (h : W.ownsMap Tryz.prog 9 R b n D) (hb : Below W.heap.size W W1) : W1.ownsMap Tryz.prog 9 R b n D := by
  obtain ⟨es, clock, h1, h2⟩ := h
  exact ⟨es, clock, (hb.block b (Array.getElem?_eq_some_iff.1 h1).1).trans h1, h2⟩
set_option maxRecDepth 100000 in
theorem look_empty {W : World} {b n : Nat} (h : W.ownsMap Tryz.prog 9 (plainElem (H := Unit) Tryz.prog 4) b n (.map [])) (s : ByteArray) (hs : s.size ≤ maxLen) : (Instr.lookup 223 (.map (some b)) (.string s) false).run Tryz.prog W = .ok (.bool false) W := by
  obtain ⟨v, ps, hrun, hv⟩ := h.lookup (string_keyed Tryz.underlying9) Tryz.underlying223 (z := .bool false) (by kernel_rfl) (plainElem_bool Tryz.underlying4 false) (key := .string s) (kl := .string s.data.toList) (by rw [keyOf_string Tryz.underlying9]; simp [mapKey, Tryz.underlying9, hs])
  have : v = .bool false := by
    unfold plainElem at hv
    rw [Tryz.underlying4] at hv
    cases v <;> simp at hv
    rename_i x
    rw [show (DataW.map (H := Unit) []).atKey (.string s.data.toList) (.lit (.bool false)) = .lit (.bool false) from rfl] at hv
    simp at hv
    rw [hv.1]
  rw [hrun, this]
def nameV : Value := .func (.func 104) #[] #[]
def rightV (xb : Nat) : Value := .func (.func 105) #[] #[.pointer (some ⟨xb, 0, none⟩)]
set_option maxHeartbeats 4000000 in
set_option maxRecDepth 100000 in
theorem bad1 (pb c n ca xb : Nat) (A : Option Addr) (W : World) (h0 : ∀ W', Below W.heap.size W W' → W'.cell? ⟨pb, 0, none⟩ = some (.string ⟨#[120]⟩) ∧ W'.cell? ⟨pb, 1, none⟩ = some (.slice A n ca))
    (hr : ∀ W', Below W.heap.size W W' → Calls Tryz.prog 105 #[.agg #[.string ⟨#[120]⟩, .slice A n ca], .pointer (some ⟨xb, 0, none⟩)] W' fun e w' => e = .returned (.bool true) ∧ Below W'.heap.size W' w') :
    Calls Tryz.prog 103 #[.slice (some ⟨pb, 0, none⟩) 1 c, .int .i64 24, nameV, rightV xb] W fun e w' => e = .returned (.tuple #[.int .i64 0, .bool false]) ∧ Below W.heap.size W w' := by
  have hmm := @run_makeMap Tryz.prog
  have hu39 := Tryz.underlying39
  have H0 := Lib.hid h0
  have Hr := Lib.hid hr
  have hneq := neq_func
  have hown0 := World.ownsMap_made W Tryz.prog 9 (plainElem (H := Unit) Tryz.prog 4)
  have HM0 := Lib.hid hown0
  clear h0 hr hown0
  unfold nameV rightV
  go_enter Tryz.func103, Tryz.ntmps103
  go_wp2
  go_loopw [16] (fun v wr => ∃ i : Nat, i ≤ 1 ∧ v = .int .i64 (i : Int) ∧ Hid (Below W.heap.size W wr) ∧ Hid (i = 0 → wr.ownsMap Tryz.prog 9 (plainElem (H := Unit) Tryz.prog 4) W.heap.size 0 (.map []))) (fun v _ => 1 - (intOf v).toNat)
  case atStart => exact ⟨0, by omega, rfl, below_alloc (Below.refl _ _) _, fun _ => HM0.out⟩
  case round =>
    obtain ⟨i, hi, rfl, HB, HM⟩ := hrel
    rcases (by omega : i = 0 ∨ i = 1) with rfl | rfl
    · obtain ⟨c0, c1⟩ := H0.out wr HB.out
      have hb2 : Below wr.heap.size wr (wr.alloc (.cells #[.string ⟨#[120]⟩, .slice A n ca] 39)) := below_alloc (Below.refl _ _) _
      have HP2 := Lib.hid (blk_new wr (.cells #[.string ⟨#[120]⟩, .slice A n ca] 39))
      have HB2 := Lib.hid (below_step HB.out hb2)
      have HM2 := Lib.hid (owns_below (HM.out rfl) hb2)
      clear hb2
      go_wp2_with fail
      generalize wr.alloc (.cells #[.string ⟨#[120]⟩, .slice A n ca] 39) = w2 at *
      refine (Hr.out w2 HB2.out).mono ?_
      rintro e w3 ⟨rfl, hb3⟩
      have HP3 := Lib.hid (blk_below HP2.out hb3)
      have HB3 := Lib.hid (below_step HB2.out hb3)
      have HM3 := Lib.hid (owns_below HM2.out hb3)
      have p0 : w3.cell? ⟨wr.heap.size, 0, none⟩ = some (.string ⟨#[120]⟩) := (blk_cell HP3.out 0).trans rfl
      have p1 : w3.cell? ⟨wr.heap.size, 1, none⟩ = some (.slice A n ca) := (blk_cell HP3.out 1).trans rfl
      have q0 : ∀ o, (w3.alloc o).cell? ⟨wr.heap.size, 0, none⟩ = some (.string ⟨#[120]⟩) := fun o => (blk_cell (blk_alloc HP3.out o) 0).trans rfl
      have q1 : ∀ o, (w3.alloc o).cell? ⟨wr.heap.size, 1, none⟩ = some (.slice A n ca) := fun o => (blk_cell (blk_alloc HP3.out o) 1).trans rfl
      have hlk : ∀ o, (Instr.lookup 223 (.map (some W.heap.size)) (.string ⟨#[120]⟩) false).run Tryz.prog (w3.alloc o) = .ok (.bool false) (w3.alloc o) := fun o => look_empty (owns_below HM3.out (below_alloc (Below.refl _ _) o)) _ (by decide)
      clear hb3 HP2 HB2 HM2 HB HM c0 c1
      have HM3b : ∀ o1 o2, Hid (((w3.alloc o1).alloc o2).ownsMap Tryz.prog 9 (plainElem (H := Unit) Tryz.prog 4) W.heap.size 0 (.map [])) := fun o1 o2 => owns_below (owns_below HM3.out (below_alloc (Below.refl _ _) o1)) (below_alloc (Below.refl _ _) o2)
      have HB3b : ∀ o1 o2, Hid (Below W.heap.size W ((w3.alloc o1).alloc o2)) := fun o1 o2 => below_step (below_step HB3.out (below_alloc (Below.refl _ _) o1)) (below_alloc (Below.refl _ _) o2)
      go_wp2_with (first
        | (at_mapUpdate; refine wpList_mapUpdate_own _ rfl (.tmp 43) (.tmp 46) (.const (.bool true)) 223 rfl 9 4 (string_keyed Tryz.underlying9) Tryz.underlying223 (plainElem (H := Unit) Tryz.prog 4) W.heap.size 0 (.map []) rfl (HM3b _ _).out (by unfold maxLen; omega) (.string ⟨#[120]⟩) (.bool true) (.string [120]) rfl rfl (by rw [keyOf_string Tryz.underlying9]; kernel_rfl) (.lit (.bool true)) [] (plainElem_bool Tryz.underlying4 true) ?_; intro w5 hm5 hg5; have HB5 := Lib.hid ((HB3b _ _).out.grown hg5 (HB3b _ _).out.size (by intro k hk; cases hk; exact Nat.le_refl _)); clear hm5 hg5)
        | go_in)
      go_roundw
      case rel => exact ⟨1, by omega, rfl, HB5.out, fun h => by cases h⟩
      case measure => simp [intOf]
    · go_wp2
      go_ret2
      exact ⟨rfl, HB.out⟩
end Go.Proofs.YtklgecdklngekaaGreatDoor.WBad1
