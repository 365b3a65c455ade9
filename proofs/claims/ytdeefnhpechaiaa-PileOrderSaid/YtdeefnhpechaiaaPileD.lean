/- Contracts of a pile's methods: up, down. -/
import Derived.Test.YtdeefnhpechaiaaPileC
namespace Go.Proofs.Ytdeefnhpechaiaa.PileD
set_option linter.unusedVariables false
open Go.RowKit Go.Maps Go.Proofs.YtdeefnhpechaiaaW.PrintWords Go.Proofs.YtdeefnhpechaiaaW.PrintLast Go.Proofs.YtdeefnhpechaiaaW.PrintMore Go.Proofs.Ytdeefnhpechaiaa.PileP Go.Proofs.Ytdeefnhpechaiaa.PileC Go.Proofs.Ytdeefnhpechaiaa.Q
theorem below_drew' {w w' : World} {B : Nat} (h : Below B w.drew w') : Below B w w' := ⟨h.os, h.tape, h.output, h.size, h.block⟩
theorem above_c (a b : It) (w : World) : Calls Try.prog 26 #[.agg #[.int .i64 a.1, .int .i64 a.2], .agg #[.int .i64 b.1, .int .i64 b.2]] w fun e w' => e = .returned (.bool (above a b)) ∧ Below w.heap.size w w' := by
  refine pile_above.calls a.1 a.2 b.1 b.2 (above a b) w ?_
  unfold pile_above.f above
  by_cases h1 : a.2 < b.2
  · simp [h1]
  · by_cases h2 : a.2 = b.2
    · simp [h2]
    · simp [h1, h2]
theorem swap_sets (l : List It) (i j : Nat) (h : i ≠ j) : (l.set j (at_ l i)).set i (at_ l j) = swap l i j := by
  unfold swap
  rw [List.set_comm _ _ h]
theorem wf_at {W : World} {B g K : Nat} {l : List It} {look : Int → Option Nat} {F : Nat → Prop} (h : IsP W B g l look K F) (i : Nat) (hi : i < l.length) : (Lit.int .i64 (at_ l i).1).wf = true := by
  obtain ⟨v, b, D, h1, h2, h3, h4, h5, h6, h7, h8⟩ := h
  exact h7 _ (at_mem hi)
theorem keep_new {W W1 W2 : World} {B g K n t : Nat} {l : List It} {look : Int → Option Nat} {F : Nat → Prop} {cs : Array Value} (h : IsP W B g l look K F) (hn : W.heap.size ≤ n) (hb : W1.heap[n]? = some (.cells cs t (0, 0))) (ht : Turn W1 W2 F) : W2.heap[n]? = some (.cells cs t (0, 0)) :=
  (ht.block n (blk_lt hb) (fun e => by have := (h.foot n e).2; omega)).trans hb
theorem two_new (W : World) (a b : Array Value) (t u : TypeId) : Below W.heap.size W ((W.alloc (.cells a t)).alloc (.cells b u)).drew ∧ ((W.alloc (.cells a t)).alloc (.cells b u)).drew.heap[W.heap.size]? = some (.cells a t (0, 0)) ∧ ((W.alloc (.cells a t)).alloc (.cells b u)).drew.heap[W.heap.size + 1]? = some (.cells b u (0, 0)) := by
  refine ⟨(((Below.refl _ W).alloc (Nat.le_refl _) _).alloc (by simp) _).drew, ?_, ?_⟩
  · exact blk_alloc (blk_new W (.cells a t)) _
  · have := blk_new (W.alloc (.cells a t)) (.cells b u)
    rw [World.size_alloc] at this
    exact this
theorem upto {W W1 : World} {B g K : Nat} {l : List It} {look : Int → Option Nat} {F : Nat → Prop} (h : IsP W B g l look K F) (hb : Below W.heap.size W W1) : IsP W1 B g l look K F ∧ Turn W W1 F := ⟨h.below hb, Turn.of_below hb F⟩
set_option maxHeartbeats 4000000 in
set_option maxRecDepth 100000 in
theorem up_c (W : World) (B g : Nat) (l : List It) (look : Int → Option Nat) (K : Nat) (F : Nat → Prop) (hP : IsP W B g l look K F) (hk : Keyed look l) (hl : l.length ≤ 1000) (hK : Hid (K + 2000 < maxLen)) (i : Nat) (hi : i < l.length) (hA : AnyInv l i) :
    Calls Try.prog 24 #[.pointer (some ⟨g, 0, none⟩), .int .i64 (i : Int)] W fun e W' => ∃ (i' : Nat) (l' : List It) (look' : Int → Option Nat) (K' : Nat), e = .returned (.int .i64 (i' : Int)) ∧ Hid (IsP W' B g l' look' K' F) ∧ Hid (Keyed look' l') ∧ Hid (l'.Perm l) ∧ l'.length = l.length ∧ i' < l'.length ∧ K' ≤ K + 2 * i ∧
      Hid ((l' = l ∧ i' = i ∧ (i = 0 ∨ above (at_ l i) (at_ l ((i - 1) / 2)) = false)) ∨ Heap l') ∧ Hid (Turn W W' F) := by
  have HP := Lib.hid hP
  have Hk := Lib.hid hk
  have HA := Lib.hid hA
  have HT0 : Hid (Turn W W F) := Turn.of_below (Below.refl _ _) F
  clear hP hk hA
  go_enter Try.func24, Try.ntmps24
  go_wp2_with fail
  go_loopw [1] (fun vi wr => ∃ (j : Nat) (l' : List It) (look' : Int → Option Nat) (K' : Nat), vi = .int .i64 (j : Int) ∧ j < l.length ∧ l'.length = l.length ∧ K' + 2 * j ≤ K + 2 * i ∧ Hid (IsP wr B g l' look' K' F) ∧ Hid (Keyed look' l') ∧ Hid (l'.Perm l) ∧ Hid ((l' = l ∧ j = i) ∨ UpInv l' j) ∧ Hid (AnyInv l' j) ∧ Hid (Turn W wr F)) (fun vi _ => (intOf vi).toNat)
  case atStart => exact ⟨i, l, look, K, rfl, hi, rfl, Nat.le_refl _, HP.out, Hk.out, List.Perm.refl _, .inl ⟨rfl, rfl⟩, HA.out, HT0.out⟩
  case round =>
    obtain ⟨j, l', look', K', rfl, hj, hll, hKj, HPr, Hkr, Hpr, HUr, HAr, HTr⟩ := hrel
    by_cases hj0 : j = 0
    · subst hj0
      go_wp2
      go_ret
      refine ⟨0, l', look', K', rfl, HPr.out, Hkr.out, Hpr.out, hll, by omega, by omega, ?_, HTr.out⟩
      rcases HUr.out with ⟨h1, h2⟩ | h
      · exact .inl ⟨h1, h2, .inl h2.symm⟩
      · exact .inr (h.stop (.inl rfl))
    · obtain ⟨o, ho⟩ : ∃ o, o = (j - 1) / 2 := ⟨_, rfl⟩
      obtain ⟨rb, c, b, hg, hlc, hrl, hBr, hcs, hfs, -⟩ := HPr.out.cells j (by omega)
      obtain ⟨hc1, hc2⟩ := hcs j (by omega)
      obtain ⟨hd1, hd2⟩ := hcs o (by omega)
      have hcell : wr.cell? ⟨g, 0, none⟩ = some (.slice (some ⟨rb, 0, none⟩) l'.length c) := (blk_cell hg 0).trans rfl
      have hw1 : IntKind.i64.wrap ((j : Int) - 1) = (j : Int) - 1 := wrap_small _ (by omega) (by omega)
      have hq : ((j : Int) - 1).tdiv 2 = (o : Int) := by rw [Int.tdiv_eq_ediv_of_nonneg (by omega)]; omega
      have hw2 : IntKind.i64.wrap (o : Int) = (o : Int) := wrap_small _ (by omega) (by omega)
      have hjp : (0 : Int) < (j : Int) := by omega
      have hjl : (j : Int) < (l'.length : Int) := by omega
      have hol : (o : Int) < (l'.length : Int) := by omega
      have hon : o < l'.length := by omega
      have hjn : j < l'.length := by omega
      have Hll := Lib.hid hll
      have Ho := Lib.hid ho
      have Hj0 := Lib.hid hj0
      have Hab := Lib.hid (above_c (at_ l' j) (at_ l' o) wr.drew)
      clear hg hcs hfs ho hj0 hll
      generalize hx : at_ l' j = x at *
      generalize hy : at_ l' o = y at *
      have Hx := Lib.hid hx
      have Hy := Lib.hid hy
      clear hx hy
      go_wp2
      go_still_tail 14, (by kernel_rfl)
      go_wp2_with fail
      refine (Hab.out).mono ?_
      cases hab : above x y
      · rintro e w2 ⟨rfl, hb2⟩
        go_wp2
        go_ret
        have hb2 : Below wr.heap.size wr w2 := below_drew' hb2
        obtain ⟨hP2, hT2⟩ := upto HPr.out hb2
        refine ⟨j, l', look', K', rfl, hP2, Hkr.out, Hpr.out, Hll.out, hjn, by omega, ?_, HTr.out.trans hT2 (fun _ h => .inl h)⟩
        have hs : j = 0 ∨ above (at_ l' j) (at_ l' ((j - 1) / 2)) = false := .inr (by rw [← Ho.out, Hx.out, Hy.out]; exact hab)
        rcases HUr.out with ⟨h1, h2⟩ | h
        · refine .inl ⟨h1, h2, ?_⟩
          rw [← h1, ← h2]
          exact hs
        · exact .inr (h.stop hs)
      · rintro e w2 ⟨rfl, hb2⟩
        have hb2 : Below wr.heap.size wr w2 := below_drew' hb2
        go_wp2
        obtain ⟨hP2, hT2⟩ := upto HPr.out hb2
        have hgl : g < wr.heap.size := World.block_lt_of_cell? wr _ hcell
        have hn2 := hb2.size
        have hcell2 : w2.cell? ⟨g, 0, none⟩ = some (.slice (some ⟨rb, 0, none⟩) l'.length c) := (hb2.cell (p := ⟨g, 0, none⟩) hgl).trans hcell
        have hk1 : w2.cell? ⟨rb, j * 2, none⟩ = some (.int .i64 x.1) := (hb2.cell (p := ⟨rb, j * 2, none⟩) hrl).trans hc1
        have hk2 : w2.cell? ⟨rb, j * 2 + 1, none⟩ = some (.int .i64 x.2) := (hb2.cell (p := ⟨rb, j * 2 + 1, none⟩) hrl).trans hc2
        have hk3 : w2.cell? ⟨rb, o * 2, none⟩ = some (.int .i64 y.1) := (hb2.cell (p := ⟨rb, o * 2, none⟩) hrl).trans hd1
        have hk4 : w2.cell? ⟨rb, o * 2 + 1, none⟩ = some (.int .i64 y.2) := (hb2.cell (p := ⟨rb, o * 2 + 1, none⟩) hrl).trans hd2
        have hg2 : g < w2.heap.size := by omega
        have hr2 : rb < w2.heap.size := by omega
        have HSb : Hid (∀ X : World, Below w2.heap.size w2 X → X.cell? ⟨g, 0, none⟩ = some (.slice (some ⟨rb, 0, none⟩) l'.length c) ∧ X.cell? ⟨rb, j * 2, none⟩ = some (.int .i64 x.1) ∧ X.cell? ⟨rb, j * 2 + 1, none⟩ = some (.int .i64 x.2) ∧ X.cell? ⟨rb, o * 2, none⟩ = some (.int .i64 y.1) ∧ X.cell? ⟨rb, o * 2 + 1, none⟩ = some (.int .i64 y.2)) := by
          intro X hX
          exact ⟨(hX.cell (p := ⟨g, 0, none⟩) hg2).trans hcell2, (hX.cell (p := ⟨rb, j * 2, none⟩) hr2).trans hk1, (hX.cell (p := ⟨rb, j * 2 + 1, none⟩) hr2).trans hk2, (hX.cell (p := ⟨rb, o * 2, none⟩) hr2).trans hk3, (hX.cell (p := ⟨rb, o * 2 + 1, none⟩) hr2).trans hk4⟩
        have HP2 := Lib.hid hP2
        have HT2 := Lib.hid hT2
        clear hcell hc1 hc2 hd1 hd2 hcell2 hk1 hk2 hk3 hk4 hP2 hT2
        go_region_held3 (fun X => X.cell? ⟨g, 0, none⟩ = some (.slice (some ⟨rb, 0, none⟩) l'.length c) ∧ X.cell? ⟨rb, j * 2, none⟩ = some (.int .i64 x.1) ∧ X.cell? ⟨rb, j * 2 + 1, none⟩ = some (.int .i64 x.2) ∧ X.cell? ⟨rb, o * 2, none⟩ = some (.int .i64 y.1) ∧ X.cell? ⟨rb, o * 2 + 1, none⟩ = some (.int .i64 y.2))
          ((refine HSb.out _ ?_; repeat (first | exact Below.refl _ _ | apply Below.drew | refine Below.alloc ?_ (by simp) _ | refine Below.setCell (p := ⟨_, _, none⟩) ?_ (by simp) _))) (fail)
        · obtain ⟨hb3, hz1, hz2⟩ := two_new w2 #[.int .i64 x.1, .int .i64 x.2] #[.int .i64 y.1, .int .i64 y.2] 51 51
          generalize ((w2.alloc (.cells #[.int .i64 x.1, .int .i64 x.2] 51)).alloc (.cells #[.int .i64 y.1, .int .i64 y.2] 51)).drew = w3 at *
          have hxb : w3.heap[w2.heap.size]? = some (.cells #[.int .i64 x.1, .int .i64 x.2] 51 (0, 0)) := hz1
          have hyb : w3.heap[w2.heap.size + 1]? = some (.cells #[.int .i64 y.1, .int .i64 y.2] 51 (0, 0)) := hz2
          have hx1 : w3.cell? ⟨w2.heap.size, 0, none⟩ = some (.int .i64 x.1) := (blk_cell hxb 0).trans rfl
          have hx2 : w3.cell? ⟨w2.heap.size, 1, none⟩ = some (.int .i64 x.2) := (blk_cell hxb 1).trans rfl
          obtain ⟨hP3, hT3⟩ := upto HP2.out hb3
          have hwx : (Lit.int .i64 x.1).wf = true := by rw [← Hx.out]; exact wf_at HP2.out j hjn
          have hwy : (Lit.int .i64 y.1).wf = true := by rw [← Hy.out]; exact wf_at HP2.out o hon
          have HP3 := Lib.hid hP3
          have HT3 := Lib.hid hT3
          have Hyb := Lib.hid hyb
          have hll2 : l'.length ≤ 1000 := by rw [Hll.out]; exact hl
          have HKa : Hid (K' < maxLen) := by have h := hK.out; show K' < maxLen; omega
          have HKb : Hid (K' + 1 < maxLen) := by have h := hK.out; show K' + 1 < maxLen; omega
          clear hb3 hz1 hz2 hP3 hT3 hxb hyb HSb
          go_wp2_with fail
          refine (set_c w3 B g l' look' K' F HP3.out hll2 HKa o hon x.1 x.2 hwx).mono ?_
          rintro e w4 ⟨rfl, hP4, hT4⟩
          have hyb4 := keep_new HP2.out (by omega) Hyb.out hT4
          have hy1 : w4.cell? ⟨w2.heap.size + 1, 0, none⟩ = some (.int .i64 y.1) := (blk_cell hyb4 0).trans rfl
          have hy2 : w4.cell? ⟨w2.heap.size + 1, 1, none⟩ = some (.int .i64 y.2) := (blk_cell hyb4 1).trans rfl
          have HP4 := Lib.hid hP4
          have HT4 := Lib.hid hT4
          clear hyb4 hP4 hT4 hx1 hx2
          go_wp2_with fail
          refine (set_c w4 B g _ _ (K' + 1) F HP4.out (by rw [List.length_set]; exact hll2) HKb j (by rw [List.length_set]; exact hjn) y.1 y.2 hwy).mono ?_
          rintro e w5 ⟨rfl, hP5, hT5⟩
          have HP5 := Lib.hid hP5
          have HT5 := Lib.hid hT5
          clear hP5 hT5 hy1 hy2
          go_wp2
          go_roundw
          case rel =>
            have hjo : j ≠ o := by have := Ho.out; have := Hj0.out; omega
            have hs := swap_sets l' j o hjo
            rw [Hx.out, Hy.out] at hs
            have hP6 := HP5.out
            rw [show (l'.set o (x.1, x.2)).set j (y.1, y.2) = swap l' j o from hs] at hP6
            have hk6 := Hkr.out.swap hjn hon hjo
            rw [Hx.out, Hy.out] at hk6
            have hu := HAr.out.go (by have := Hj0.out; omega) hjn (by rw [← Ho.out, Hx.out, Hy.out]; exact hab)
            rw [← Ho.out] at hu
            refine ⟨o, swap l' j o, _, _, by go_num, by have := Hll.out; omega, by rw [swap_length]; exact Hll.out, ?_, hP6, hk6, (swap_perm l' j o hjn hon).trans Hpr.out, .inr hu, hu.any, ?_⟩
            · have h1 := Ho.out
              have h2 := Hj0.out
              omega
            · exact ((((HTr.out.trans HT2.out (fun _ h => .inl h)).trans HT3.out (fun _ h => .inl h)).trans HT4.out (fun _ h => .inl h)).trans HT5.out (fun _ h => .inl h))
          case measure =>
            have h1 := Ho.out
            have h2 := Hj0.out
            simp [intOf]
            omega
        · obtain ⟨hb3, hz1, hz2⟩ := two_new w2 #[.int .i64 y.1, .int .i64 y.2] #[.int .i64 x.1, .int .i64 x.2] 51 51
          generalize ((w2.alloc (.cells #[.int .i64 y.1, .int .i64 y.2] 51)).alloc (.cells #[.int .i64 x.1, .int .i64 x.2] 51)).drew = w3 at *
          have hxb : w3.heap[w2.heap.size + 1]? = some (.cells #[.int .i64 x.1, .int .i64 x.2] 51 (0, 0)) := hz2
          have hyb : w3.heap[w2.heap.size]? = some (.cells #[.int .i64 y.1, .int .i64 y.2] 51 (0, 0)) := hz1
          have hx1 : w3.cell? ⟨w2.heap.size + 1, 0, none⟩ = some (.int .i64 x.1) := (blk_cell hxb 0).trans rfl
          have hx2 : w3.cell? ⟨w2.heap.size + 1, 1, none⟩ = some (.int .i64 x.2) := (blk_cell hxb 1).trans rfl
          obtain ⟨hP3, hT3⟩ := upto HP2.out hb3
          have hwx : (Lit.int .i64 x.1).wf = true := by rw [← Hx.out]; exact wf_at HP2.out j hjn
          have hwy : (Lit.int .i64 y.1).wf = true := by rw [← Hy.out]; exact wf_at HP2.out o hon
          have HP3 := Lib.hid hP3
          have HT3 := Lib.hid hT3
          have Hyb := Lib.hid hyb
          have hll2 : l'.length ≤ 1000 := by rw [Hll.out]; exact hl
          have HKa : Hid (K' < maxLen) := by have h := hK.out; show K' < maxLen; omega
          have HKb : Hid (K' + 1 < maxLen) := by have h := hK.out; show K' + 1 < maxLen; omega
          clear hb3 hz1 hz2 hP3 hT3 hxb hyb HSb
          go_wp2_with fail
          refine (set_c w3 B g l' look' K' F HP3.out hll2 HKa o hon x.1 x.2 hwx).mono ?_
          rintro e w4 ⟨rfl, hP4, hT4⟩
          have hyb4 := keep_new HP2.out (by omega) Hyb.out hT4
          have hy1 : w4.cell? ⟨w2.heap.size, 0, none⟩ = some (.int .i64 y.1) := (blk_cell hyb4 0).trans rfl
          have hy2 : w4.cell? ⟨w2.heap.size, 1, none⟩ = some (.int .i64 y.2) := (blk_cell hyb4 1).trans rfl
          have HP4 := Lib.hid hP4
          have HT4 := Lib.hid hT4
          clear hyb4 hP4 hT4 hx1 hx2
          go_wp2_with fail
          refine (set_c w4 B g _ _ (K' + 1) F HP4.out (by rw [List.length_set]; exact hll2) HKb j (by rw [List.length_set]; exact hjn) y.1 y.2 hwy).mono ?_
          rintro e w5 ⟨rfl, hP5, hT5⟩
          have HP5 := Lib.hid hP5
          have HT5 := Lib.hid hT5
          clear hP5 hT5 hy1 hy2
          go_wp2
          go_roundw
          case rel =>
            have hjo : j ≠ o := by have := Ho.out; have := Hj0.out; omega
            have hs := swap_sets l' j o hjo
            rw [Hx.out, Hy.out] at hs
            have hP6 := HP5.out
            rw [show (l'.set o (x.1, x.2)).set j (y.1, y.2) = swap l' j o from hs] at hP6
            have hk6 := Hkr.out.swap hjn hon hjo
            rw [Hx.out, Hy.out] at hk6
            have hu := HAr.out.go (by have := Hj0.out; omega) hjn (by rw [← Ho.out, Hx.out, Hy.out]; exact hab)
            rw [← Ho.out] at hu
            refine ⟨o, swap l' j o, _, _, by go_num, by have := Hll.out; omega, by rw [swap_length]; exact Hll.out, ?_, hP6, hk6, (swap_perm l' j o hjn hon).trans Hpr.out, .inr hu, hu.any, ?_⟩
            · have h1 := Ho.out
              have h2 := Hj0.out
              omega
            · exact ((((HTr.out.trans HT2.out (fun _ h => .inl h)).trans HT3.out (fun _ h => .inl h)).trans HT4.out (fun _ h => .inl h)).trans HT5.out (fun _ h => .inl h))
          case measure =>
            have h1 := Ho.out
            have h2 := Hj0.out
            simp [intOf]
            omega
end Go.Proofs.Ytdeefnhpechaiaa.PileD
