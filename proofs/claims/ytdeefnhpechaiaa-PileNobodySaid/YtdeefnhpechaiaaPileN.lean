/- What a pile that is nil tells. -/
import Derived.Test.YtdeefnhpechaiaaPileM
namespace Go.Proofs.Ytdeefnhpechaiaa.PileN
set_option linter.unusedVariables false
open Go.RowKit Go.Maps Go.Proofs.YtdeefnhpechaiaaW.PrintWords Go.Proofs.YtdeefnhpechaiaaW.PrintLast Go.Proofs.YtdeefnhpechaiaaW.PrintMore Go.Proofs.Ytdeefnhpechaiaa.PileP Go.Proofs.Ytdeefnhpechaiaa.PileC Go.Proofs.Ytdeefnhpechaiaa.PileD Go.Proofs.Ytdeefnhpechaiaa.PileE Go.Proofs.Ytdeefnhpechaiaa.PileF Go.Proofs.Ytdeefnhpechaiaa.PileG Go.Proofs.Ytdeefnhpechaiaa.PileH Go.Proofs.Ytdeefnhpechaiaa.PileI Go.Proofs.Ytdeefnhpechaiaa.PileJ Go.Proofs.Ytdeefnhpechaiaa.PileK Go.Proofs.Ytdeefnhpechaiaa.Q
theorem peek_nil (w : World) : Calls Try.prog 22 #[.pointer none] w fun e w' => e = .returned (.tuple #[.int .i64 0, .int .i64 0, .bool false]) ∧ w' = w := by
  go_enter Try.func22, Try.ntmps22
  go_wp2
  go_ret3
  exact ⟨rfl, rfl⟩
theorem pop_nil (w : World) : Calls Try.prog 11 #[.pointer none] w fun e w' => e = .returned (.tuple #[.int .i64 0, .int .i64 0, .bool false]) ∧ w' = w := by
  go_enter Try.func11, Try.ntmps11
  go_wp2_with (go_at_call 22; refine (peek_nil _).mono ?_; rintro e w' ⟨rfl, rfl⟩)
  go_ret3
  exact ⟨rfl, rfl⟩
theorem rank_nil (key : Int) (w : World) : Calls Try.prog 13 #[.pointer none, .int .i64 key] w fun e w' => e = .returned (.tuple #[.int .i64 0, .bool false]) ∧ w' = w := by
  go_enter Try.func13, Try.ntmps13
  go_wp2
  go_ret2
  exact ⟨rfl, rfl⟩
theorem push_nil (key rank : Int) (w : World) : Calls Try.prog 10 #[.pointer none, .int .i64 key, .int .i64 rank] w fun e w' => e = .returned (.bool false) ∧ w' = w := by
  go_enter Try.func10, Try.ntmps10
  go_wp2
  go_ret
  exact ⟨rfl, rfl⟩
theorem move_nil (key rank : Int) (w : World) : Calls Try.prog 17 #[.pointer none, .int .i64 key, .int .i64 rank] w fun e w' => e = .returned (.bool false) ∧ w' = w := by
  go_enter Try.func17, Try.ntmps17
  go_wp2
  go_ret
  exact ⟨rfl, rfl⟩
theorem drop_nil (key : Int) (w : World) : Calls Try.prog 18 #[.pointer none, .int .i64 key] w fun e w' => e = .returned (.bool false) ∧ w' = w := by
  go_enter Try.func18, Try.ntmps18
  go_wp2
  go_ret
  exact ⟨rfl, rfl⟩
theorem len_nil (w : World) : Calls Try.prog 12 #[.pointer none] w fun e w' => e = .returned (.int .i64 0) ∧ w' = w := by
  go_enter Try.func12, Try.ntmps12
  go_wp2
  go_ret
  exact ⟨rfl, rfl⟩
set_option maxHeartbeats 4000000 in
set_option maxRecDepth 100000 in
/-- Push, into a pile that New did not make. -/
theorem push_bare (w W : World) (hWb : Below w.heap.size w W) (g : Nat) (hg : W.heap[g]? = some (.cells #[.slice none 0 0, .map none] 49 (0, 0))) (hgw : w.heap.size ≤ g) (key rank : Int) (hw : (Lit.int .i64 key).wf = true) :
    Calls Try.prog 10 #[.pointer (some ⟨g, 0, none⟩), .int .i64 key, .int .i64 rank] W fun e w' => e = .returned (.bool true) ∧ ∃ (K' : Nat) (F' : Nat → Prop), Hid (Own w w' g [(key, rank)] K' F') ∧ K' ≤ 5000 := by
  have hcell1 : W.cell? ⟨g, 1, none⟩ = some (.map none) := (blk_cell hg 1).trans rfl
  have hcellA : (W.alloc (.map #[] 0)).cell? ⟨g, 1, none⟩ = some (.map none) := (blk_cell (blk_alloc hg _) 1).trans rfl
  have hfzA : (W.alloc (.map #[] 0)).frozen? ⟨g, 1, none⟩ = false := blk_frozen (blk_alloc hg _) 1
  have hmn := eql_map_nil
  have hmm := @run_makeMap Try.prog
  have hgl : g < W.heap.size := blk_lt hg
  have h1 : ((W.setCell ⟨g, 1, none⟩ (.map (some W.heap.size))).alloc (.map #[] 0)).heap[g]? = some (.cells #[.slice none 0 0, .map (some W.heap.size)] 49 (0, 0)) := blk_alloc (blk_set hg 1 _) _
  have hs0 : (W.setCell ⟨g, 1, none⟩ (.map (some W.heap.size))).heap.size = W.heap.size := by simp [World.setCell]
  have hown : ((W.setCell ⟨g, 1, none⟩ (.map (some W.heap.size))).alloc (.map #[] 0)).ownsMap Try.prog 3 PE W.heap.size 0 (.map []) := by
    have := World.ownsMap_made (W.setCell ⟨g, 1, none⟩ (.map (some W.heap.size))) Try.prog 3 PE
    rw [hs0] at this
    exact this
  have hW0s : ((W.setCell ⟨g, 1, none⟩ (.map (some W.heap.size))).alloc (.map #[] 0)).heap.size = W.heap.size + 1 := by rw [World.size_alloc, hs0]
  have hP : IsP ((W.setCell ⟨g, 1, none⟩ (.map (some W.heap.size))).alloc (.map #[] 0)) w.heap.size g [] (fun _ => none) 0 (fun k => k = g ∨ k = W.heap.size ∨ some k = Value.ownBlock (.slice none 0 0)) :=
    ⟨.slice none 0 0, W.heap.size, .map [], h1, own_nil _ _ _ _, hown, hgw, hWb.size, Lk.empty, fun x hx => by simp at hx, rfl⟩
  have hb0 : Below w.heap.size w ((W.setCell ⟨g, 1, none⟩ (.map (some W.heap.size))).alloc (.map #[] 0)) := (hWb.setCell (p := ⟨g, 1, none⟩) hgw _).alloc (by rw [hs0]; exact hWb.size) _
  have hfoot : ∀ k, (k = g ∨ k = W.heap.size ∨ some k = Value.ownBlock (.slice none 0 0)) → w.heap.size ≤ k := by
    rintro k (rfl | rfl | h)
    · exact hgw
    · exact hWb.size
    · cases h
  have hhas : Maps.has (H := Unit) (.map []) (.int .i64 key) = false := rfl
  have hcell0 : ((W.setCell ⟨g, 1, none⟩ (.map (some W.heap.size))).alloc (.map #[] 0)).cell? ⟨g, 0, none⟩ = some (.slice none 0 0) := (blk_cell h1 0).trans rfl
  have hcell2 : ((W.setCell ⟨g, 1, none⟩ (.map (some W.heap.size))).alloc (.map #[] 0)).cell? ⟨g, 1, none⟩ = some (.map (some W.heap.size)) := (blk_cell h1 1).trans rfl
  obtain ⟨i0, hi0, hz0, hz1, hz2⟩ := info_parts PileF.info51
  have Hown := Lib.hid hown
  have HP := Lib.hid hP
  have H1 := Lib.hid h1
  have HB0 := Lib.hid hb0
  have HFt := Lib.hid hfoot
  have HW0s := Lib.hid hW0s
  have HR : Hid (((W.setCell ⟨g, 1, none⟩ (.map (some W.heap.size))).alloc (.map #[] 0)).ownsRow w.heap.size 51 2 (.slice none 0 0) 0 (fl [])) := own_nil _ _ _ _
  clear hg hown hP h1 hb0 hfoot hW0s hs0
  go_enter Try.func10, Try.ntmps10
  go_wp2_with (first
    | (at_lookup; refine wpList_lookup_own_ok_int _ rfl _ _ 47 rfl 3 3 .i64 (int_keyed Try.underlying3) Try.underlying47 Try.underlying3 (zero3 _) W.heap.size 0 (DataW.map ([] : List (Lit × DataW Unit))) rfl Hown.out _ _ rfl (keyOf3 hw) ?_; intro ci hat hwc; clear hat hwc)
    | (at_builtin; refine wpList_append_own_at _ rfl _ _ 46 rfl w.heap.size 51 i0 (.agg #[.int .i64 0, .int .i64 0]) 2 16 Try.underlying46 hi0 hz0 hz1 hz2 rfl (by decide) _ _ _ rfl (HR.out.alloc _) ⟨W.heap.size + 1, 0, none⟩ 1 1 [.int .i64 0, .int .i64 0] rfl rfl (by rw [← HW0s.out]; exact cell_two _ _ _ _) (by simp [Value.oneCell']) (by unfold maxLen; omega) (by omega) (by simp [World.setCell]; have := hWb.size; omega) ?_; intro v' w1 hown' hgrow hnil hloc; obtain ⟨Ag, cg, rfl⟩ := own_slice hown'; obtain ⟨hq1, hq2, F1, hP1, hT1, hF1⟩ := IsP.append HB0.out.size HP.out H1.out hown' hgrow hloc; have HP1 := Lib.hid hP1; have HT1 := Lib.hid hT1; clear hP1 hT1 hown' hgrow hnil hloc))
  generalize w1.setCell ⟨g, 0, none⟩ (.slice Ag (0 + 1) cg) = w2 at *
  have HKa : Hid (0 < maxLen) := by show 0 < maxLen; unfold maxLen; omega
  have hset := set_c w2 w.heap.size g [(0, 0)] (fun _ => none) 0 F1 HP1.out (by simp) HKa 0 (by simp) key rank hw
  rw [show ((0 : Nat) : Int) = 0 from rfl] at hset
  have HSet := Lib.hid hset
  clear hset
  refine (HSet.out).mono ?_
  rw [show [((0 : Int), (0 : Int))].set 0 (key, rank) = [(key, rank)] from rfl]
  rintro e w3 ⟨rfl, hP3, hT3⟩
  obtain ⟨A3, c3, hcell3, hlc3⟩ := IsP.row hP3
  have HP3 := Lib.hid hP3
  have HT3 := Lib.hid hT3
  rw [show [(key, rank)].length = 1 from rfl] at hcell3
  clear hP3 hT3 hq1 hq2 hlc3
  go_wp2_with fail
  have hk3 : PileP.Keyed (upd (fun _ => none) key (some 0)) [(key, rank)] := PileP.Keyed.snoc (l := []) PileP.Keyed.nil rfl rank
  have HKb : Hid (0 + 1 + 2000 < maxLen) := by show 0 + 1 + 2000 < maxLen; unfold maxLen; omega
  have hup := up_c w3 w.heap.size g [(key, rank)] _ (0 + 1) F1 HP3.out hk3 (by simp) HKb 0 (by simp) (Heap.snoc (l := []) (fun j h0 hj => by simp at hj) (key, rank)).any
  rw [show ((0 : Nat) : Int) = 0 from rfl] at hup
  have HUp := Lib.hid hup
  clear hup
  refine (HUp.out).mono ?_
  rintro e w4 ⟨i', l', look', K', rfl, HP4, Hk4, Hp4, hl4, hi4, hK4, Hs4, HT4⟩
  clear hcell3
  go_wp2_with fail
  go_ret
  have hHeap : Heap l' := by
    rcases Hs4.out with ⟨rfl, -, hs⟩ | h
    · exact (Heap.snoc (l := []) (fun j h0 hj => by simp at hj) (key, rank)).stop (.inl rfl)
    · exact h
  have hTT := (HT1.out.trans HT3.out hF1).trans HT4.out hF1
  refine ⟨rfl, K', F1, ⟨⟨l', ⟨look', HP4.out, Hk4.out, hHeap⟩, Hp4.out⟩, fun k hk => ?_, Turn.below HB0.out hTT HFt.out⟩, by omega⟩
  rcases hF1 k hk with h | h
  · exact HFt.out k h
  · rw [HW0s.out] at h
    have := hWb.size
    omega
set_option maxHeartbeats 4000000 in
set_option maxRecDepth 100000 in
theorem nobody_walk (key rank : Int) (hw : (Lit.int .i64 key).wf = true) (w : World) :
    Calls Try.prog 7 #[.int .i64 key, .int .i64 rank] w fun e w' => e = .returned (.bool true) ∧ Below w.heap.size w w' := by
  have hbx := blk_new w (.cells #[.slice none 0 0, .map none] 49)
  have Hbx := Lib.hid hbx
  have Hb := Lib.hid ((Below.refl w.heap.size w).alloc (Nat.le_refl _) (.cells #[.slice none 0 0, .map none] 49))
  have hu49 := Try.underlying49
  clear hbx
  go_enter Try.func7, Try.ntmps7
  go_wp2_with (fail)
  refine (pop_nil _).mono ?_
  rintro e w ⟨rfl, rfl⟩
  go_wp2_with (fail)
  refine (peek_nil _).mono ?_
  rintro e w ⟨rfl, rfl⟩
  go_wp2_with (fail)
  refine (rank_nil _ _).mono ?_
  rintro e w ⟨rfl, rfl⟩
  go_wp2_with (fail)
  refine (push_nil _ _ _).mono ?_
  rintro e w ⟨rfl, rfl⟩
  go_wp2_with (fail)
  refine (move_nil _ _ _).mono ?_
  rintro e w ⟨rfl, rfl⟩
  go_wp2_with (fail)
  refine (drop_nil _ _).mono ?_
  rintro e w ⟨rfl, rfl⟩
  go_wp2_with (fail)
  refine (len_nil _).mono ?_
  rintro e w ⟨rfl, rfl⟩
  go_wp2_with (fail)
  refine (push_bare _ _ Hb.out _ Hbx.out (Nat.le_refl _) key rank hw).mono ?_
  rintro e w2 ⟨rfl, K, F, H, hK⟩
  go_wp2_with fail
  refine (pop_o w w2 _ [(key, rank)] (by simp) K (cap K (by omega)) F H.out).mono ?_
  rw [show tp [(key, rank)] = (key, rank) from rfl, show decide (0 < [(key, rank)].length) = true from rfl]
  rintro e w3 ⟨rfl, K3, H3, hK3, -⟩
  go_wp2_with (go_at_call 8; refine (heads_c _).mono ?_; rintro e w' ⟨rfl, hb⟩)
  go_ret
  exact ⟨rfl, below_step H3.out.below hb⟩
end Go.Proofs.Ytdeefnhpechaiaa.PileN
