/- problem.Copy at the chapter's example. -/
import Derived.Test.YtklgecdklngekaaGreatDoorWExm
import Derived.Test.YtklgecdklngekaaGreatDoorWRd
namespace Go.Proofs.YtklgecdklngekaaGreatDoor.WCopy
set_option linter.unusedVariables false
set_option linter.unusedSimpArgs false
open Go.RowKit Go.Proofs.YtklgecdklngekaaGreatDoorW.PrintWords Go.Proofs.YtklgecdklngekaaGreatDoorW.PrintLast Go.Proofs.YtklgecdklngekaaGreatDoor.Q Go.Proofs.YtklgecdklngekaaGreatDoor.WPers Go.Proofs.YtklgecdklngekaaGreatDoor.WExm Go.Proofs.YtklgecdklngekaaGreatDoor.WRd
theorem per_of {W : World} {b : Nat} {v a : Value} (h : W.ownsRow b 39 2 v 1 [.string ⟨#[120]⟩, a]) :
    ∃ nb c rest, v = .slice (some ⟨nb, 0, none⟩) 1 c ∧ 1 ≤ c ∧ b ≤ nb ∧ W.heap[nb]? = some (.cells (([.string ⟨#[120]⟩, a] : List Value) ++ rest).toArray 39 (0, 0)) := by
  obtain ⟨_, h0 | ⟨g, cap, cur, rfl, hb, hg, hn, _, _, ht⟩⟩ := h
  · omega
  · refine ⟨g, cap, cur.toList.drop 2, rfl, hn, hb, ?_⟩
    rw [hg]
    congr 2
    apply Array.toList_inj.1
    show cur.toList = _
    rw [List.toList_toArray, ← List.take_append_drop 2 cur.toList]
    rw [show 1 * 2 = 2 from rfl] at ht
    rw [ht]
    simp
theorem Tms.fr {W W1 : World} {lo rb : Nat} {on : Bool} {v : Value} (h : Tms W lo on v) (hF : Fr W W1 rb) {cs : Array Value} {ty : Nat} (hz : W.heap[rb]? = some (.cells cs ty (0, 0))) (ht : ty ≠ 25) : Tms W1 lo on v := by
  cases on with
  | false => exact h
  | true =>
    obtain ⟨tb, c, r, e, h1, h2, ⟨rest, h3, h4⟩⟩ := h
    exact ⟨tb, c, r, e, h1, h2, rest, h3, (hF.block tb (blk_lt h4) (blk_ne h4 hz (Ne.symm ht))).trans h4⟩
theorem Per.fr {W W1 : World} {lo rb : Nat} {on : Bool} {v : Value} (h : Per W lo on v) (hF : Fr W W1 rb) {cs : Array Value} {ty : Nat} (hz : W.heap[rb]? = some (.cells cs ty (0, 0))) (ht : ty ≠ 25) (hp : ty ≠ 39) : Per W1 lo on v := by
  obtain ⟨pb, c, a, rest, e, h1, h2, h3, h4⟩ := h
  exact ⟨pb, c, a, rest, e, h1, h2, (hF.block pb (blk_lt h3) (blk_ne h3 hz (Ne.symm hp))).trans h3, Tms.fr h4 hF hz ht⟩
set_option maxHeartbeats 8000000 in
set_option maxRecDepth 100000 in
theorem copy_c (W : World) (lo : Nat) (on : Bool) (v : Value) (hp : Per W lo on v) :
    Calls Tryz.prog 36 #[prob v] W fun e w' => ∃ v', e = .returned (prob v') ∧ Per w' W.heap.size on v' ∧ Below W.heap.size W w' := by
  have hu50 := Tryz.underlying50
  have hu39 := Tryz.underlying39
  obtain ⟨pb, c, a, rest, rfl, hc, hlo, hpb, hta⟩ := hp
  obtain ⟨A, n, ca, rfl, _⟩ := hta.slice
  have HPB := Lib.hid hpb
  have HTA := Lib.hid hta
  clear hpb hta hlo
  unfold prob
  go_enter Tryz.func36, Tryz.ntmps36
  go_wp2_with fail
  have HX1 := Lib.hid (blk_alloc (blk_new W (.cells #[.string ⟨#[112]⟩, .int .i64 4, .int .i64 5, .int .i64 40, .slice none 0 0, .slice none 0 0, .slice (some ⟨pb, 0, none⟩) 1 c, .slice none 0 0, .slice none 0 0, .slice none 0 0, .slice none 0 0, .int .i64 0, .int .i64 0, .int .i64 0, .int .i64 0] 50)) (.cells #[.string ⟨#[]⟩, .int .i64 0, .int .i64 0, .int .i64 0, .slice none 0 0, .slice none 0 0, .slice none 0 0, .slice none 0 0, .slice none 0 0, .slice none 0 0, .slice none 0 0, .int .i64 0, .int .i64 0, .int .i64 0, .int .i64 0] 50))
  have hz1 := blk_new (W.alloc (.cells #[.string ⟨#[112]⟩, .int .i64 4, .int .i64 5, .int .i64 40, .slice none 0 0, .slice none 0 0, .slice (some ⟨pb, 0, none⟩) 1 c, .slice none 0 0, .slice none 0 0, .slice none 0 0, .slice none 0 0, .int .i64 0, .int .i64 0, .int .i64 0, .int .i64 0] 50)) (.cells #[.string ⟨#[]⟩, .int .i64 0, .int .i64 0, .int .i64 0, .slice none 0 0, .slice none 0 0, .slice none 0 0, .slice none 0 0, .slice none 0 0, .slice none 0 0, .slice none 0 0, .int .i64 0, .int .i64 0, .int .i64 0, .int .i64 0] 50)
  rw [World.size_alloc] at hz1
  have HZ1 := Lib.hid hz1
  have HB1 := Lib.hid (below_alloc (below_alloc (Below.refl W.heap.size W) (.cells #[.string ⟨#[112]⟩, .int .i64 4, .int .i64 5, .int .i64 40, .slice none 0 0, .slice none 0 0, .slice (some ⟨pb, 0, none⟩) 1 c, .slice none 0 0, .slice none 0 0, .slice none 0 0, .slice none 0 0, .int .i64 0, .int .i64 0, .int .i64 0, .int .i64 0] 50)) (.cells #[.string ⟨#[]⟩, .int .i64 0, .int .i64 0, .int .i64 0, .slice none 0 0, .slice none 0 0, .slice none 0 0, .slice none 0 0, .slice none 0 0, .slice none 0 0, .slice none 0 0, .int .i64 0, .int .i64 0, .int .i64 0, .int .i64 0] 50))
  clear hz1
  generalize (W.alloc (.cells #[.string ⟨#[112]⟩, .int .i64 4, .int .i64 5, .int .i64 40, .slice none 0 0, .slice none 0 0, .slice (some ⟨pb, 0, none⟩) 1 c, .slice none 0 0, .slice none 0 0, .slice none 0 0, .slice none 0 0, .int .i64 0, .int .i64 0, .int .i64 0, .int .i64 0] 50)).alloc (.cells #[.string ⟨#[]⟩, .int .i64 0, .int .i64 0, .int .i64 0, .slice none 0 0, .slice none 0 0, .slice none 0 0, .slice none 0 0, .slice none 0 0, .slice none 0 0, .slice none 0 0, .int .i64 0, .int .i64 0, .int .i64 0, .int .i64 0] 50) = W1 at *
  refine (WClone.nilRoom W1).mono ?_
  rintro e W1 ⟨rfl, rfl⟩
  have x4 : W1.cell? ⟨W.heap.size, 4, none⟩ = some (.slice none 0 0) := (blk_cell HX1.out 4).trans rfl
  have f4 : W1.frozen? ⟨W.heap.size, 4, none⟩ = false := blk_frozen HX1.out 4
  have i4 : W1.setCell ⟨W.heap.size, 4, none⟩ (.slice none 0 0) = W1 := setCell_id HX1.out 4 rfl
  go_wp2_with fail
  go_loopw [19] (fun vi wr => vi = .int .i64 0 ∧ Hid (W1 = wr)) (fun _ _ => 0)
  case atStart => exact ⟨rfl, Lib.hid rfl⟩
  case round =>
    obtain ⟨rfl, hw⟩ := hrel
    have hw := hw.out
    subst hw
    have x5 : W1.cell? ⟨W.heap.size, 5, none⟩ = some (.slice none 0 0) := (blk_cell HX1.out 5).trans rfl
    go_wp2_with fail
    refine (WClone.rows0 W1).mono ?_
    rintro e W2 ⟨rfl, hb⟩
    have HX2 := Lib.hid (blk_below HX1.out hb)
    have HZ2 := Lib.hid (blk_below HZ1.out hb)
    have hbw := below_step HB1.out hb
    have HPB2 := Lib.hid (blk_below HPB.out hbw)
    have HTA2 := Lib.hid (HTA.out.below hbw)
    have HB2 := Lib.hid hbw
    clear hb hbw x4 f4 i4 x5 HX1 HZ1 HPB HTA HB1
    have x5 : W2.cell? ⟨W.heap.size, 5, none⟩ = some (.slice none 0 0) := (blk_cell HX2.out 5).trans rfl
    have f5 : W2.frozen? ⟨W.heap.size, 5, none⟩ = false := blk_frozen HX2.out 5
    have i5 : W2.setCell ⟨W.heap.size, 5, none⟩ (.slice none 0 0) = W2 := setCell_id HX2.out 5 rfl
    have x6 : W2.cell? ⟨W.heap.size, 6, none⟩ = some (.slice (some ⟨pb, 0, none⟩) 1 c) := (blk_cell HX2.out 6).trans rfl
    go_wp2_with fail
    refine (WClone.onePerson pb c ⟨#[120]⟩ (.slice A n ca) rfl W2 ((blk_cell HPB2.out 0).trans rfl) ((blk_cell HPB2.out 1).trans rfl)).mono ?_
    rintro e W3 ⟨v3, rfl, how, hb⟩
    obtain ⟨nb, c2, rest3, rfl, hc2, hnb, hn3⟩ := per_of how
    have HX3 := Lib.hid (blk_below HX2.out hb)
    have HZ3 := Lib.hid (blk_below HZ2.out hb)
    have HTA3 := Lib.hid (HTA2.out.below hb)
    have HN3 := Lib.hid hn3
    have hnb2 : W.heap.size ≤ nb := Nat.le_trans HB2.out.size hnb
    have HB3 := Lib.hid (below_step HB2.out hb)
    clear hb how hn3 hnb HX2 HZ2 HPB2 HTA2 HB2 x5 f5 i5 x6
    have x6 : W3.cell? ⟨W.heap.size, 6, none⟩ = some (.slice (some ⟨pb, 0, none⟩) 1 c) := (blk_cell HX3.out 6).trans rfl
    have f6 : W3.frozen? ⟨W.heap.size, 6, none⟩ = false := blk_frozen HX3.out 6
    go_wp2_with fail
    have HX4 : Hid ((W3.setCell ⟨W.heap.size, 6, none⟩ (.slice (some ⟨nb, 0, none⟩) 1 c2)).heap[W.heap.size]? = some (.cells #[.string ⟨#[112]⟩, .int .i64 4, .int .i64 5, .int .i64 40, .slice none 0 0, .slice none 0 0, .slice (some ⟨nb, 0, none⟩) 1 c2, .slice none 0 0, .slice none 0 0, .slice none 0 0, .slice none 0 0, .int .i64 0, .int .i64 0, .int .i64 0, .int .i64 0] 50 (0, 0))) := blk_set HX3.out 6 _
    have HZ4 := Lib.hid (blk_far HZ3.out (p := ⟨W.heap.size, 6, none⟩) (by show W.heap.size + 1 ≠ W.heap.size; omega) (.slice (some ⟨nb, 0, none⟩) 1 c2))
    have HN4 := Lib.hid (blk_far HN3.out (p := ⟨W.heap.size, 6, none⟩) (blk_ne HN3.out HX3.out (by decide)) (.slice (some ⟨nb, 0, none⟩) 1 c2))
    have HTA4 := Lib.hid (HTA3.out.far HX3.out (by decide) 6 (.slice (some ⟨nb, 0, none⟩) 1 c2))
    have HB4 := Lib.hid (HB3.out.setCell (p := ⟨W.heap.size, 6, none⟩) (Nat.le_refl _) (.slice (some ⟨nb, 0, none⟩) 1 c2))
    clear x6 f6 HX3 HZ3 HN3 HTA3 HB3
    generalize W3.setCell ⟨W.heap.size, 6, none⟩ (.slice (some ⟨nb, 0, none⟩) 1 c2) = W4 at *
    have hci : (1 : Int) ≤ c2 := by omega
    go_loopw [46] (fun vi wr => ∃ i : Nat, i ≤ 1 ∧ vi = .int .i64 (i : Int) ∧ Hid (wr.heap[W.heap.size]? = some (.cells #[.string ⟨#[112]⟩, .int .i64 4, .int .i64 5, .int .i64 40, .slice none 0 0, .slice none 0 0, .slice (some ⟨nb, 0, none⟩) 1 c2, .slice none 0 0, .slice none 0 0, .slice none 0 0, .slice none 0 0, .int .i64 0, .int .i64 0, .int .i64 0, .int .i64 0] 50 (0, 0))) ∧ Hid (wr.heap[W.heap.size + 1]? = some (.cells #[.string ⟨#[]⟩, .int .i64 0, .int .i64 0, .int .i64 0, .slice none 0 0, .slice none 0 0, .slice none 0 0, .slice none 0 0, .slice none 0 0, .slice none 0 0, .slice none 0 0, .int .i64 0, .int .i64 0, .int .i64 0, .int .i64 0] 50 (0, 0))) ∧ Hid (Below W.heap.size W wr) ∧
        Hid (i = 0 → wr.heap[nb]? = some (.cells (([.string ⟨#[120]⟩, .slice A n ca] : List Value) ++ rest3).toArray 39 (0, 0)) ∧ Tms wr lo on (.slice A n ca)) ∧
        Hid (i = 1 → ∃ A2 n2 ca2, wr.heap[nb]? = some (.cells (([.string ⟨#[120]⟩, .slice A2 n2 ca2] : List Value) ++ rest3).toArray 39 (0, 0)) ∧ Tms wr W.heap.size on (.slice A2 n2 ca2))) (fun vi _ => 1 - (intOf vi).toNat)
    case atStart => exact ⟨0, by omega, rfl, HX4, HZ4, HB4, Lib.hid (fun _ => ⟨HN4.out, HTA4.out⟩), Lib.hid (fun h => by cases h)⟩
    case round =>
      obtain ⟨i, hi, rfl, HX5, HZ5, HB5, H0, H1⟩ := hrel
      clear HX4 HZ4 HN4 HTA4 HB4
      rcases (by omega : i = 0 ∨ i = 1) with rfl | rfl
      · obtain ⟨hn5, ht5⟩ := H0.out rfl
        clear H0 H1
        go_wp2_with fail
        have hbd : Below wr.heap.size wr wr.drew := (Below.refl _ _).drew
        have hS1 : wr.drew.cell? ⟨W.heap.size, 6, none⟩ = some (.slice (some ⟨nb, 0, none⟩) 1 c2) := (blk_cell (blk_below HX5.out hbd) 6).trans rfl
        have hS2 : wr.drew.cell? ⟨nb, 1, none⟩ = some (.slice A n ca) := (blk_cell (blk_below hn5 hbd) 1).trans rfl
        have HX6 := Lib.hid (blk_below HX5.out hbd)
        have HZ6 := Lib.hid (blk_below HZ5.out hbd)
        have HB6 := Lib.hid (below_step HB5.out hbd)
        have HN6 := Lib.hid (blk_below hn5 hbd)
        have HT6 := Lib.hid (ht5.below hbd)
        clear hbd hn5 ht5 HX5 HZ5 HB5
        refine start_ (n := 13) (S := fun w' => w'.cell? ⟨W.heap.size, 6, none⟩ = some (.slice (some ⟨nb, 0, none⟩) 1 c2) ∧ w'.cell? ⟨nb, 1, none⟩ = some (.slice A n ca)) (ds := [12]) #[false, false, false, false, false, false, false, false, false, false, false, false, false] (by kernel_rfl) rfl rfl ⟨hS1, hS2⟩ (fun hHeld => ?_)
        clear hS1 hS2
        generalize wr.drew = W6 at *
        refine pure_ (i := 0) (N := some 49) (v := ?_) (a' := ?_) #[true, false, false, false, false, false, false, false, false, false, false, false, false] rfl rfl (by kernel_rfl) (fun _ _ _ h => h) (Or.inl ⟨by rfl, ?_⟩) ?_ ?_
        rotate_left
        · intro w'
          go_simp
          with_reducible rfl
        rotate_left
        · simp only [Act.put, List.setIfInBounds_toArray, List.set_cons_zero, List.set_cons_succ, i64_w, i32_w]
          rfl
        refine pure_ (i := 2) (N := some 51) (v := ?_) (a' := ?_) #[true, false, true, false, false, false, false, false, false, false, false, false, false] rfl rfl (by kernel_rfl) (fun _ _ _ h => h) (Or.inl ⟨by rfl, ?_⟩) ?_ ?_
        rotate_left
        · intro w'
          go_simp
          with_reducible rfl
        rotate_left
        · simp only [Act.put, List.setIfInBounds_toArray, List.set_cons_zero, List.set_cons_succ, i64_w, i32_w]
          rfl
        refine pure_ (i := 3) (N := some 52) (v := ?_) (a' := ?_) #[true, false, true, true, false, false, false, false, false, false, false, false, false] rfl rfl (by kernel_rfl) (fun _ _ _ h => h) (Or.inl ⟨by rfl, ?_⟩) ?_ ?_
        rotate_left
        · intro w'
          go_simp
          with_reducible rfl
        rotate_left
        · simp only [Act.put, List.setIfInBounds_toArray, List.set_cons_zero, List.set_cons_succ, i64_w, i32_w]
          rfl
        refine pure_ (i := 5) (N := some 54) (v := ?_) (a' := ?_) #[true, false, true, true, false, true, false, false, false, false, false, false, false] rfl rfl (by kernel_rfl) (fun _ _ _ h => h) (Or.inl ⟨by rfl, ?_⟩) ?_ ?_
        rotate_left
        · intro w'
          go_simp
          with_reducible rfl
        rotate_left
        · simp only [Act.put, List.setIfInBounds_toArray, List.set_cons_zero, List.set_cons_succ, i64_w, i32_w]
          rfl
        refine take_ (i := 1) (N := some 50) (v := ?_) (a' := ?_) #[true, true, true, true, false, true, false, false, false, false, false, false, false] rfl rfl (by kernel_rfl) (fun _ _ _ h => h) (Or.inl ⟨by rfl, ?_⟩) hHeld ?_ ?_
        rotate_left
        · rintro w' ⟨s0, s1⟩
          go_simp
          with_reducible rfl
        rotate_left
        · simp only [Act.put, List.setIfInBounds_toArray, List.set_cons_zero, List.set_cons_succ, i64_w, i32_w]
          rfl
        refine take_ (i := 4) (N := some 53) (v := ?_) (a' := ?_) #[true, true, true, true, true, true, false, false, false, false, false, false, false] rfl rfl (by kernel_rfl) (fun _ _ _ h => h) (Or.inl ⟨by rfl, ?_⟩) hHeld ?_ ?_
        rotate_left
        · rintro w' ⟨s0, s1⟩
          go_simp
          with_reducible rfl
        rotate_left
        · simp only [Act.put, List.setIfInBounds_toArray, List.set_cons_zero, List.set_cons_succ, i64_w, i32_w]
          rfl
        refine pure_ (i := 6) (N := some 55) (v := ?_) (a' := ?_) #[true, true, true, true, true, true, true, false, false, false, false, false, false] rfl rfl (by kernel_rfl) (fun _ _ _ h => h) (Or.inl ⟨by rfl, ?_⟩) ?_ ?_
        rotate_left
        · intro w'
          go_simp
          with_reducible rfl
        rotate_left
        · simp only [Act.put, List.setIfInBounds_toArray, List.set_cons_zero, List.set_cons_succ, i64_w, i32_w]
          rfl
        refine pure_ (i := 7) (N := some 56) (v := ?_) (a' := ?_) #[true, true, true, true, true, true, true, true, false, false, false, false, false] rfl rfl (by kernel_rfl) (fun _ _ _ h => h) (Or.inl ⟨by rfl, ?_⟩) ?_ ?_
        rotate_left
        · intro w'
          go_simp
          with_reducible rfl
        rotate_left
        · simp only [Act.put, List.setIfInBounds_toArray, List.set_cons_zero, List.set_cons_succ, i64_w, i32_w]
          rfl
        refine take_ (i := 8) (N := some 57) (v := ?_) (a' := ?_) #[true, true, true, true, true, true, true, true, true, false, false, false, false] rfl rfl (by kernel_rfl) (fun _ _ _ h => h) (Or.inl ⟨by rfl, ?_⟩) hHeld ?_ ?_
        rotate_left
        · rintro w' ⟨s0, s1⟩
          go_simp
          with_reducible rfl
        rotate_left
        · simp only [Act.put, List.setIfInBounds_toArray, List.set_cons_zero, List.set_cons_succ, i64_w, i32_w]
          rfl
        refine one_ (i := 9) (N := some 58) #[true, true, true, true, true, true, true, true, true, true, false, false, false] rfl rfl (by kernel_rfl) (by decide) (fun K hK => ?_)
        refine goes_ Tryz.func66 (by kernel_rfl) rfl #[.slice A n ca] (by rfl) rfl rfl (by simp only [List.map_toArray, List.map_cons, List.map_nil]; rfl) ?_
        refine (cloneTms HT6.out).mono ?_
        rintro e W7 ⟨v7, rfl, ht7, hb7⟩
        refine ⟨_, rfl, ?_⟩
        obtain ⟨A7, n7, c7, rfl, _⟩ := ht7.slice
        have HX7 := Lib.hid (blk_below HX6.out hb7)
        have HZ7 := Lib.hid (blk_below HZ6.out hb7)
        have HN7 := Lib.hid (blk_below HN6.out hb7)
        have HT7 := Lib.hid (ht7.mono HB6.out.size)
        have HB7 := Lib.hid (below_step HB6.out hb7)
        clear ht7 hb7 HX6 HZ6 HN6 HT6 HB6
        refine hK.out _ _ ⟨(blk_cell HX7.out 6).trans rfl, (blk_cell HN7.out 1).trans rfl⟩ (fun hHeld => ?_)
        clear hK K
        refine norm_ (a' := ?_) ?_ ?_
        rotate_left
        · show Act.put _ (some 58) _ = _
          simp only [Act.put, List.setIfInBounds_toArray, List.set_cons_zero, List.set_cons_succ, i64_w, i32_w]
          rfl
        refine pure_ (i := 10) (N := some 59) (v := ?_) (a' := ?_) #[true, true, true, true, true, true, true, true, true, true, true, false, false] rfl rfl (by kernel_rfl) (fun _ _ _ h => h) (Or.inl ⟨by rfl, ?_⟩) ?_ ?_
        rotate_left
        · intro w'
          go_simp
          with_reducible rfl
        rotate_left
        · simp only [Act.put, List.setIfInBounds_toArray, List.set_cons_zero, List.set_cons_succ, i64_w, i32_w]
          rfl
        refine pure_ (i := 11) (N := some 60) (v := ?_) (a' := ?_) #[true, true, true, true, true, true, true, true, true, true, true, true, false] rfl rfl (by kernel_rfl) (fun _ _ _ h => h) (Or.inl ⟨by rfl, ?_⟩) ?_ ?_
        rotate_left
        · intro w'
          go_simp
          with_reducible rfl
        rotate_left
        · simp only [Act.put, List.setIfInBounds_toArray, List.set_cons_zero, List.set_cons_succ, i64_w, i32_w]
          rfl
        refine last_ (i := 12) (N := none) #[true, true, true, true, true, true, true, true, true, true, true, true, true] rfl rfl (by kernel_rfl) (by decide) (fun K hK => ?_)
        have n1 : W7.cell? ⟨nb, 1, none⟩ = some (.slice A n ca) := (blk_cell HN7.out 1).trans rfl
        have m1 : W7.frozen? ⟨nb, 1, none⟩ = false := blk_frozen HN7.out 1
        refine skip_ (w1 := ?_) (by rfl) rfl ?_ ?_
        rotate_left
        · go_simp
          rfl
        refine hK.out _ _ ?_
        clear hK K
        refine done_ (by kernel_rfl) ?_
        go_wp2_with fail
        go_roundw
        case rel =>
          refine ⟨1, by omega, rfl, ?_, ?_, ?_, ?_, ?_⟩
          · exact Lib.hid (blk_far HX7.out (p := ⟨nb, 1, none⟩) (blk_ne HX7.out HN7.out (by decide)) _)
          · exact Lib.hid (blk_far HZ7.out (p := ⟨nb, 1, none⟩) (blk_ne HZ7.out HN7.out (by decide)) _)
          · exact Lib.hid (HB7.out.setCell (p := ⟨nb, 1, none⟩) hnb2 _)
          · exact Lib.hid (fun h => by cases h)
          · exact Lib.hid (fun _ => ⟨A7, n7, c7, blk_put HN7.out 1 _ (by simp), HT7.out.far HN7.out (by decide) 1 _⟩)
        case measure => simp [intOf]
      · obtain ⟨A8, n8, c8, hn8, ht8⟩ := H1.out rfl
        have HN8 := Lib.hid hn8
        have HT8 := Lib.hid ht8
        clear H0 H1 hn8 ht8
        have x7 : wr.cell? ⟨W.heap.size, 7, none⟩ = some (.slice none 0 0) := (blk_cell HX5.out 7).trans rfl
        go_wp2_with fail
        clear x7
        generalize wr = W8 at *
        have HX8 := HX5
        have HZ8 := HZ5
        have HB8 := HB5
        clear HX5 HZ5 HB5
        refine (WClone.nilClass W8).mono ?_
        rintro e W8 ⟨rfl, rfl⟩
        have x7 : W8.cell? ⟨W.heap.size, 7, none⟩ = some (.slice none 0 0) := (blk_cell HX8.out 7).trans rfl
        have f7 : W8.frozen? ⟨W.heap.size, 7, none⟩ = false := blk_frozen HX8.out 7
        have i7 : W8.setCell ⟨W.heap.size, 7, none⟩ (.slice none 0 0) = W8 := setCell_id HX8.out 7 rfl
        go_wp2_with fail
        go_loopw [69] (fun vi wr => vi = .int .i64 0 ∧ Hid (W8 = wr)) (fun _ _ => 0)
        case atStart => exact ⟨rfl, Lib.hid rfl⟩
        case round =>
          obtain ⟨rfl, hw⟩ := hrel
          have hw := hw.out
          subst hw
          have x8 : W8.cell? ⟨W.heap.size, 8, none⟩ = some (.slice none 0 0) := (blk_cell HX8.out 8).trans rfl
          go_wp2_with fail
          clear x7 f7 i7 x8
          refine (WClone.nilCourse W8).mono ?_
          rintro e W8 ⟨rfl, rfl⟩
          have x8 : W8.cell? ⟨W.heap.size, 8, none⟩ = some (.slice none 0 0) := (blk_cell HX8.out 8).trans rfl
          have f8 : W8.frozen? ⟨W.heap.size, 8, none⟩ = false := blk_frozen HX8.out 8
          have i8 : W8.setCell ⟨W.heap.size, 8, none⟩ (.slice none 0 0) = W8 := setCell_id HX8.out 8 rfl
          go_wp2_with fail
          go_loopw [108] (fun vi wr => vi = .int .i64 0 ∧ Hid (W8 = wr)) (fun _ _ => 0)
          case atStart => exact ⟨rfl, Lib.hid rfl⟩
          case round =>
            obtain ⟨rfl, hw⟩ := hrel
            have hw := hw.out
            subst hw
            have x9 : W8.cell? ⟨W.heap.size, 9, none⟩ = some (.slice none 0 0) := (blk_cell HX8.out 9).trans rfl
            go_wp2_with fail
            clear x8 f8 i8 x9
            refine (WClone.nilStudent W8).mono ?_
            rintro e W8 ⟨rfl, rfl⟩
            have x9 : W8.cell? ⟨W.heap.size, 9, none⟩ = some (.slice none 0 0) := (blk_cell HX8.out 9).trans rfl
            have f9 : W8.frozen? ⟨W.heap.size, 9, none⟩ = false := blk_frozen HX8.out 9
            have i9 : W8.setCell ⟨W.heap.size, 9, none⟩ (.slice none 0 0) = W8 := setCell_id HX8.out 9 rfl
            go_wp2_with fail
            go_loopw [156] (fun vi wr => vi = .int .i64 0 ∧ Hid (W8 = wr)) (fun _ _ => 0)
            case atStart => exact ⟨rfl, Lib.hid rfl⟩
            case round =>
              obtain ⟨rfl, hw⟩ := hrel
              have hw := hw.out
              subst hw
              have x10 : W8.cell? ⟨W.heap.size, 10, none⟩ = some (.slice none 0 0) := (blk_cell HX8.out 10).trans rfl
              go_wp2_with fail
              clear x9 f9 i9 x10
              refine (WClone.nilRule W8).mono ?_
              rintro e W8 ⟨rfl, rfl⟩
              have x10 : W8.cell? ⟨W.heap.size, 10, none⟩ = some (.slice none 0 0) := (blk_cell HX8.out 10).trans rfl
              have f10 : W8.frozen? ⟨W.heap.size, 10, none⟩ = false := blk_frozen HX8.out 10
              have i10 : W8.setCell ⟨W.heap.size, 10, none⟩ (.slice none 0 0) = W8 := setCell_id HX8.out 10 rfl
              go_wp2_with fail
              clear x10 f10 i10
              go_loopw [179] (fun vi wr => vi = .int .i64 0 ∧ Hid (W8 = wr)) (fun _ _ => 0)
              case atStart => exact ⟨rfl, Lib.hid rfl⟩
              case round =>
                obtain ⟨rfl, hw⟩ := hrel
                have hw := hw.out
                subst hw
                have x0 : W8.cell? ⟨W.heap.size, 0, none⟩ = some (.string ⟨#[112]⟩) := (blk_cell HX8.out 0).trans rfl
                have z0 : W8.cell? ⟨W.heap.size + 1, 0, none⟩ = some (.string ⟨#[]⟩) := (blk_cell HZ8.out 0).trans rfl
                have y0 : W8.frozen? ⟨W.heap.size + 1, 0, none⟩ = false := blk_frozen HZ8.out 0
                have x1 : W8.cell? ⟨W.heap.size, 1, none⟩ = some (.int .i64 4) := (blk_cell HX8.out 1).trans rfl
                have z1 : W8.cell? ⟨W.heap.size + 1, 1, none⟩ = some (.int .i64 0) := (blk_cell HZ8.out 1).trans rfl
                have y1 : W8.frozen? ⟨W.heap.size + 1, 1, none⟩ = false := blk_frozen HZ8.out 1
                have x2 : W8.cell? ⟨W.heap.size, 2, none⟩ = some (.int .i64 5) := (blk_cell HX8.out 2).trans rfl
                have z2 : W8.cell? ⟨W.heap.size + 1, 2, none⟩ = some (.int .i64 0) := (blk_cell HZ8.out 2).trans rfl
                have y2 : W8.frozen? ⟨W.heap.size + 1, 2, none⟩ = false := blk_frozen HZ8.out 2
                have x3 : W8.cell? ⟨W.heap.size, 3, none⟩ = some (.int .i64 40) := (blk_cell HX8.out 3).trans rfl
                have z3 : W8.cell? ⟨W.heap.size + 1, 3, none⟩ = some (.int .i64 0) := (blk_cell HZ8.out 3).trans rfl
                have y3 : W8.frozen? ⟨W.heap.size + 1, 3, none⟩ = false := blk_frozen HZ8.out 3
                have x4 : W8.cell? ⟨W.heap.size, 4, none⟩ = some (.slice none 0 0) := (blk_cell HX8.out 4).trans rfl
                have z4 : W8.cell? ⟨W.heap.size + 1, 4, none⟩ = some (.slice none 0 0) := (blk_cell HZ8.out 4).trans rfl
                have y4 : W8.frozen? ⟨W.heap.size + 1, 4, none⟩ = false := blk_frozen HZ8.out 4
                have x5 : W8.cell? ⟨W.heap.size, 5, none⟩ = some (.slice none 0 0) := (blk_cell HX8.out 5).trans rfl
                have z5 : W8.cell? ⟨W.heap.size + 1, 5, none⟩ = some (.slice none 0 0) := (blk_cell HZ8.out 5).trans rfl
                have y5 : W8.frozen? ⟨W.heap.size + 1, 5, none⟩ = false := blk_frozen HZ8.out 5
                have x6 : W8.cell? ⟨W.heap.size, 6, none⟩ = some (.slice (some ⟨nb, 0, none⟩) 1 c2) := (blk_cell HX8.out 6).trans rfl
                have z6 : W8.cell? ⟨W.heap.size + 1, 6, none⟩ = some (.slice none 0 0) := (blk_cell HZ8.out 6).trans rfl
                have y6 : W8.frozen? ⟨W.heap.size + 1, 6, none⟩ = false := blk_frozen HZ8.out 6
                have x7 : W8.cell? ⟨W.heap.size, 7, none⟩ = some (.slice none 0 0) := (blk_cell HX8.out 7).trans rfl
                have z7 : W8.cell? ⟨W.heap.size + 1, 7, none⟩ = some (.slice none 0 0) := (blk_cell HZ8.out 7).trans rfl
                have y7 : W8.frozen? ⟨W.heap.size + 1, 7, none⟩ = false := blk_frozen HZ8.out 7
                have x8 : W8.cell? ⟨W.heap.size, 8, none⟩ = some (.slice none 0 0) := (blk_cell HX8.out 8).trans rfl
                have z8 : W8.cell? ⟨W.heap.size + 1, 8, none⟩ = some (.slice none 0 0) := (blk_cell HZ8.out 8).trans rfl
                have y8 : W8.frozen? ⟨W.heap.size + 1, 8, none⟩ = false := blk_frozen HZ8.out 8
                have x9 : W8.cell? ⟨W.heap.size, 9, none⟩ = some (.slice none 0 0) := (blk_cell HX8.out 9).trans rfl
                have z9 : W8.cell? ⟨W.heap.size + 1, 9, none⟩ = some (.slice none 0 0) := (blk_cell HZ8.out 9).trans rfl
                have y9 : W8.frozen? ⟨W.heap.size + 1, 9, none⟩ = false := blk_frozen HZ8.out 9
                have x10 : W8.cell? ⟨W.heap.size, 10, none⟩ = some (.slice none 0 0) := (blk_cell HX8.out 10).trans rfl
                have z10 : W8.cell? ⟨W.heap.size + 1, 10, none⟩ = some (.slice none 0 0) := (blk_cell HZ8.out 10).trans rfl
                have y10 : W8.frozen? ⟨W.heap.size + 1, 10, none⟩ = false := blk_frozen HZ8.out 10
                have x11 : W8.cell? ⟨W.heap.size, 11, none⟩ = some (.int .i64 0) := (blk_cell HX8.out 11).trans rfl
                have z11 : W8.cell? ⟨W.heap.size + 1, 11, none⟩ = some (.int .i64 0) := (blk_cell HZ8.out 11).trans rfl
                have y11 : W8.frozen? ⟨W.heap.size + 1, 11, none⟩ = false := blk_frozen HZ8.out 11
                have x12 : W8.cell? ⟨W.heap.size, 12, none⟩ = some (.int .i64 0) := (blk_cell HX8.out 12).trans rfl
                have z12 : W8.cell? ⟨W.heap.size + 1, 12, none⟩ = some (.int .i64 0) := (blk_cell HZ8.out 12).trans rfl
                have y12 : W8.frozen? ⟨W.heap.size + 1, 12, none⟩ = false := blk_frozen HZ8.out 12
                have x13 : W8.cell? ⟨W.heap.size, 13, none⟩ = some (.int .i64 0) := (blk_cell HX8.out 13).trans rfl
                have z13 : W8.cell? ⟨W.heap.size + 1, 13, none⟩ = some (.int .i64 0) := (blk_cell HZ8.out 13).trans rfl
                have y13 : W8.frozen? ⟨W.heap.size + 1, 13, none⟩ = false := blk_frozen HZ8.out 13
                have x14 : W8.cell? ⟨W.heap.size, 14, none⟩ = some (.int .i64 0) := (blk_cell HX8.out 14).trans rfl
                have z14 : W8.cell? ⟨W.heap.size + 1, 14, none⟩ = some (.int .i64 0) := (blk_cell HZ8.out 14).trans rfl
                have y14 : W8.frozen? ⟨W.heap.size + 1, 14, none⟩ = false := blk_frozen HZ8.out 14
                have HF := Lib.hid ((((((((((((((((Fr.refl W8 (W.heap.size + 1)).set (W.heap.size + 1) 0 (.inl rfl) (.string ⟨#[112]⟩)).set (W.heap.size + 1) 1 (.inl rfl) (.int .i64 4)).set (W.heap.size + 1) 2 (.inl rfl) (.int .i64 5)).set (W.heap.size + 1) 3 (.inl rfl) (.int .i64 40)).set (W.heap.size + 1) 4 (.inl rfl) (.slice none 0 0)).set (W.heap.size + 1) 5 (.inl rfl) (.slice none 0 0)).set (W.heap.size + 1) 6 (.inl rfl) (.slice (some ⟨nb, 0, none⟩) 1 c2)).set (W.heap.size + 1) 7 (.inl rfl) (.slice none 0 0)).set (W.heap.size + 1) 8 (.inl rfl) (.slice none 0 0)).set (W.heap.size + 1) 9 (.inl rfl) (.slice none 0 0)).set (W.heap.size + 1) 10 (.inl rfl) (.slice none 0 0)).set (W.heap.size + 1) 11 (.inl rfl) (.int .i64 0)).set (W.heap.size + 1) 12 (.inl rfl) (.int .i64 0)).set (W.heap.size + 1) 13 (.inl rfl) (.int .i64 0)).set (W.heap.size + 1) 14 (.inl rfl) (.int .i64 0))
                go_wp2_with fail
                refine bodyPost_ret (results_cell_row rfl _ _ (W.heap.size + 1) 50 #[.string ⟨#[112]⟩, .int .i64 4, .int .i64 5, .int .i64 40, .slice none 0 0, .slice none 0 0, .slice (some ⟨nb, 0, none⟩) 1 c2, .slice none 0 0, .slice none 0 0, .slice none 0 0, .slice none 0 0, .int .i64 0, .int .i64 0, .int .i64 0, .int .i64 0] (0, 0) _ rfl (blk_set (blk_set (blk_set (blk_set (blk_set (blk_set (blk_set (blk_set (blk_set (blk_set (blk_set (blk_set (blk_set (blk_set (blk_set HZ8.out 0 _) 1 _) 2 _) 3 _) 4 _) 5 _) 6 _) 7 _) 8 _) 9 _) 10 _) 11 _) 12 _) 13 _) 14 _) Tryz.underlying50 rfl (by kernel_rfl)) rfl ?_
                refine ⟨.slice (some ⟨nb, 0, none⟩) 1 c2, rfl, ?_, Fr.below HB8.out HF.out (Nat.le_succ _)⟩
                exact Per.fr ⟨nb, c2, _, rest3, rfl, hc2, hnb2, HN8.out, HT8.out⟩ HF.out HZ8.out (by decide) (by decide)
end Go.Proofs.YtklgecdklngekaaGreatDoor.WCopy
