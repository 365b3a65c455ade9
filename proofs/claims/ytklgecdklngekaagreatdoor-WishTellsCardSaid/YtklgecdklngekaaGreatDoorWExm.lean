/- The chapter's example in memory: the times (none, or the one), the person. -/
import Derived.Test.YtklgecdklngekaaGreatDoorWPers
import Derived.Test.YtklgecdklngekaaGreatDoorWClone
import Derived.Test.YtklgecdklngekaaGreatDoorWCheck
namespace Go.Proofs.YtklgecdklngekaaGreatDoor.WExm
set_option linter.unusedVariables false
set_option linter.unusedSimpArgs false
open Go.RowKit Go.Proofs.YtklgecdklngekaaGreatDoorW.PrintWords Go.Proofs.YtklgecdklngekaaGreatDoorW.PrintLast Go.Proofs.YtklgecdklngekaaGreatDoor.Q Go.Proofs.YtklgecdklngekaaGreatDoor.WPers
theorem setCell_id {W : World} {b : Nat} {cs : Array Value} {t : TypeId} {fz : Nat × Nat} (h : W.heap[b]? = some (.cells cs t fz)) (j : Nat) {v : Value} (hv : cs[j]? = some v) : W.setCell ⟨b, j, none⟩ v = W := by
  obtain ⟨hb, hb2⟩ := Array.getElem?_eq_some_iff.1 h
  obtain ⟨hj, hj2⟩ := Array.getElem?_eq_some_iff.1 hv
  have hh : W.heap.modify b (fun
      | .cells c elem frozen => .cells (if (none : Option Nat).isSome then c else c.setIfInBounds j v) elem frozen
      | o => o) = W.heap := by
    apply Array.ext
    · simp
    · intro i h1 h2
      rw [Array.getElem_modify]
      split
      · rename_i e
        subst e
        rw [hb2]
        have : cs.setIfInBounds j v = cs := by
          apply Array.ext
          · simp
          · intro k h3 h4
            rw [Array.getElem_setIfInBounds]
            split
            · rename_i e; subst e; exact hj2.symm
            · rfl
        show Obj.cells (cs.setIfInBounds j v) t fz = _
        rw [this]
      · rfl
  unfold World.setCell
  show { W with heap := _ } = W
  cases W
  simp only at hh ⊢
  congr 1
def Tms (W : World) (lo : Nat) : Bool → Value → Prop
  | false, v => v = .slice none 0 0
  | true, v => ∃ tb c r, v = .slice (some ⟨tb, 0, none⟩) 1 c ∧ 1 ≤ c ∧ lo ≤ tb ∧ WB W tb r
def Per (W : World) (lo : Nat) (on : Bool) (v : Value) : Prop :=
  ∃ pb c a rest, v = .slice (some ⟨pb, 0, none⟩) 1 c ∧ 1 ≤ c ∧ lo ≤ pb ∧ W.heap[pb]? = some (.cells (([.string ⟨#[120]⟩, a] : List Value) ++ rest).toArray 39 (0, 0)) ∧ Tms W lo on a
theorem Tms.below {W W1 : World} {lo : Nat} {on : Bool} {v : Value} (h : Tms W lo on v) (hb : Below W.heap.size W W1) : Tms W1 lo on v := by
  cases on with
  | false => exact h
  | true =>
    obtain ⟨tb, c, r, e, h1, h2, h3⟩ := h
    exact ⟨tb, c, r, e, h1, h2, h3.below hb⟩
theorem Tms.mono {W : World} {lo lo' : Nat} {on : Bool} {v : Value} (h : Tms W lo on v) (hl : lo' ≤ lo) : Tms W lo' on v := by
  cases on with
  | false => exact h
  | true =>
    obtain ⟨tb, c, r, e, h1, h2, h3⟩ := h
    exact ⟨tb, c, r, e, h1, Nat.le_trans hl h2, h3⟩
theorem Tms.far {W : World} {lo : Nat} {on : Bool} {v : Value} (h : Tms W lo on v) {zb ty : Nat} {cs : Array Value} (hz : W.heap[zb]? = some (.cells cs ty (0, 0))) (ht : ty ≠ 25) (j : Nat) (u : Value) : Tms (W.setCell ⟨zb, j, none⟩ u) lo on v := by
  cases on with
  | false => exact h
  | true =>
    obtain ⟨tb, c, r, e, h1, h2, ⟨rest, h3, h4⟩⟩ := h
    exact ⟨tb, c, r, e, h1, h2, rest, h3, blk_far h4 (p := ⟨zb, j, none⟩) (blk_ne h4 hz (Ne.symm ht)) u⟩
theorem Tms.slice {W : World} {lo : Nat} {on : Bool} {v : Value} (h : Tms W lo on v) : ∃ A n c, v = .slice A n c ∧ v.oneCell' = true := by
  cases on with
  | false => exact ⟨none, 0, 0, h, by rw [h]; rfl⟩
  | true =>
    obtain ⟨tb, c, r, e, _⟩ := h
    exact ⟨_, _, _, e, by rw [e]; rfl⟩
theorem Per.below {W W1 : World} {lo : Nat} {on : Bool} {v : Value} (h : Per W lo on v) (hb : Below W.heap.size W W1) : Per W1 lo on v := by
  obtain ⟨pb, c, a, rest, e, h1, h2, h3, h4⟩ := h
  exact ⟨pb, c, a, rest, e, h1, h2, blk_below h3 hb, h4.below hb⟩
theorem Per.mono {W : World} {lo lo' : Nat} {on : Bool} {v : Value} (h : Per W lo on v) (hl : lo' ≤ lo) : Per W lo' on v := by
  obtain ⟨pb, c, a, rest, e, h1, h2, h3, h4⟩ := h
  exact ⟨pb, c, a, rest, e, h1, Nat.le_trans hl h2, h3, h4.mono hl⟩
theorem Per.far {W : World} {lo : Nat} {on : Bool} {v : Value} (h : Per W lo on v) {zb ty : Nat} {cs : Array Value} (hz : W.heap[zb]? = some (.cells cs ty (0, 0))) (ht : ty ≠ 25) (hp : ty ≠ 39) (j : Nat) (u : Value) : Per (W.setCell ⟨zb, j, none⟩ u) lo on v := by
  obtain ⟨pb, c, a, rest, e, h1, h2, h3, h4⟩ := h
  exact ⟨pb, c, a, rest, e, h1, h2, blk_far h3 (p := ⟨zb, j, none⟩) (blk_ne h3 hz (Ne.symm hp)) u, h4.far hz ht j u⟩
theorem WB.get {W : World} {tb : Nat} {r : Array Value} (h : WB W tb r) : ∀ j u, ([.int .u32 7, .int .u8 1, .int .i64 16, .int .i64 4] : List Value)[j]? = some u → W.cell? ⟨tb, j, none⟩ = some u := by
  intro j u hj
  obtain ⟨c0, c1, c2, c3⟩ := h.cells
  match j, hj with
  | 0, hj => have : Value.int .u32 7 = u := by simpa using hj
             rw [← this]; exact c0
  | 1, hj => have : Value.int .u8 1 = u := by simpa using hj
             rw [← this]; exact c1
  | 2, hj => have : Value.int .i64 16 = u := by simpa using hj
             rw [← this]; exact c2
  | 3, hj => have : Value.int .i64 4 = u := by simpa using hj
             rw [← this]; exact c3
  | j + 4, hj => simp at hj
theorem tms_of {W : World} {b : Nat} {v : Value} (h : W.ownsRow b 25 4 v 1 [.int .u32 7, .int .u8 1, .int .i64 16, .int .i64 4]) : Tms W b true v := by
  obtain ⟨_, h0 | ⟨g, cap, cur, rfl, hb, hg, hn, _, _, ht⟩⟩ := h
  · omega
  · refine ⟨g, cap, cur, rfl, hn, hb, cur.toList.drop 4, ?_, hg⟩
    apply Array.toList_inj.1
    show cur.toList = _
    rw [List.toList_toArray, ← List.take_append_drop 4 cur.toList]
    rw [show 1 * 4 = 4 from rfl] at ht
    rw [ht]
    simp
theorem cloneTms {W : World} {lo : Nat} {on : Bool} {v : Value} (h : Tms W lo on v) :
    Calls Tryz.prog 66 #[v] W fun e w' => ∃ v', e = .returned v' ∧ Tms w' W.heap.size on v' ∧ Below W.heap.size W w' := by
  cases on with
  | false =>
    have hv : v = .slice none 0 0 := h
    subst hv
    exact (WClone.nilWhen W).mono fun e w' ⟨h1, h2⟩ => ⟨_, h1, rfl, by rw [h2]; exact Below.refl _ _⟩
  | true =>
    obtain ⟨tb, c, r, rfl, h1, h2, h3⟩ := h
    refine (WClone.oneWhen tb c [.int .u32 7, .int .u8 1, .int .i64 16, .int .i64 4] rfl (by intro u hu; simp at hu; rcases hu with rfl | rfl | rfl | rfl <;> rfl) W (WB.get h3)).mono ?_
    rintro e w' ⟨v', rfl, ho, hb⟩
    exact ⟨v', rfl, tms_of ho, hb⟩
theorem rightTms {W : World} {lo : Nat} {on : Bool} {v : Value} (h : Tms W lo on v) :
    Calls Tryz.prog 106 #[.agg #[.int .i64 4, .int .i64 5, .int .i64 40], .agg #[.string ⟨#[120]⟩, v]] W fun e w' => e = .returned (.bool true) ∧ Below W.heap.size W w' := by
  cases on with
  | false =>
    have hv : v = .slice none 0 0 := h
    subst hv
    exact right0 none 0 W
  | true =>
    obtain ⟨tb, c, r, rfl, h1, h2, h3⟩ := h
    exact right1 tb c r W h3
def prob (v : Value) : Value := .agg #[.string ⟨#[112]⟩, .int .i64 4, .int .i64 5, .int .i64 40, .slice none 0 0, .slice none 0 0, v, .slice none 0 0, .slice none 0 0, .slice none 0 0, .slice none 0 0, .int .i64 0, .int .i64 0, .int .i64 0, .int .i64 0]
theorem rightPer {W : World} {lo : Nat} {on : Bool} {v : Value} (h : Per W lo on v) :
    Calls Tryz.prog 34 #[prob v] W fun e w' => e = .returned (.bool true) ∧ Below W.heap.size W w' := by
  obtain ⟨pb, c, a, rest, rfl, h1, h2, h3, h4⟩ := h
  obtain ⟨A, n, ca, rfl, _⟩ := h4.slice
  exact WCheck.right_c pb c n ca A W (fun W' hb => ⟨(blk_cell (blk_below h3 hb) 0).trans rfl, (blk_cell (blk_below h3 hb) 1).trans rfl⟩) (fun W' hb => rightTms (h4.below hb))
end Go.Proofs.YtklgecdklngekaaGreatDoor.WExm
