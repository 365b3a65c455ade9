/- The walk of the law PilePops: what is popped rises, and is all that was pushed. -/
import Derived.Test.YtdeefnhpechaiaaPileJ
namespace Go.Proofs.Ytdeefnhpechaiaa.PileK
set_option linter.unusedVariables false
open Go.RowKit Go.Maps Go.Proofs.YtdeefnhpechaiaaW.PrintWords Go.Proofs.YtdeefnhpechaiaaW.PrintLast Go.Proofs.YtdeefnhpechaiaaW.PrintMore Go.Proofs.Ytdeefnhpechaiaa.PileP Go.Proofs.Ytdeefnhpechaiaa.PileC Go.Proofs.Ytdeefnhpechaiaa.PileD Go.Proofs.Ytdeefnhpechaiaa.PileE Go.Proofs.Ytdeefnhpechaiaa.PileF Go.Proofs.Ytdeefnhpechaiaa.PileG Go.Proofs.Ytdeefnhpechaiaa.PileH Go.Proofs.Ytdeefnhpechaiaa.PileI Go.Proofs.Ytdeefnhpechaiaa.PileJ Go.Proofs.Ytdeefnhpechaiaa.Q
theorem cap2 (K i : Nat) (hi : i ≤ 400) (h : K ≤ 5000 * i) : Hid (K + 5000 < maxLen) := by
  show K + 5000 < maxLen
  unfold maxLen
  omega
/-- The cells of an operation that came in, in every world behind. -/
theorem op_cells {ops : List S28} {A : Option Addr} {w : World} (hC : Kd.C k28 w A ops.length ops) (i : Nat) (hi : i < ops.length) : ∃ (ad : Addr) (x : S28), A = some ad ∧ ops[i]? = some x ∧ ∀ W : World, Below w.heap.size w W →
    W.cell? (ad.add (i * 3)) = some (.int .i64 x.f0) ∧ W.cell? ⟨(ad.add (i * 3)).block, (ad.add (i * 3)).off + 1, none⟩ = some (.int .i64 x.f1) ∧ W.cell? ⟨(ad.add (i * 3)).block, (ad.add (i * 3)).off + 2, none⟩ = some (.int .i64 x.f2) := by
  obtain ⟨ad, hA, _⟩ := at_T28 hC (i : Int) (by omega) (by omega)
  have hx : ops[i]? = some ops[i] := List.getElem?_eq_getElem hi
  refine ⟨ad, ops[i], hA, hx, fun W hW => ?_⟩
  obtain ⟨ad', hA', h1, h2, h3⟩ := at_T28 (Kd.C_below hC hW) (i : Int) (by omega) (by omega)
  rw [hA] at hA'
  injection hA' with hA'
  subst hA'
  have hr : rd_T28 ops (i : Int) = ops[i] := by
    unfold rd_T28
    simp [List.getD_eq_getElem?_getD, hx]
  rw [hr] at h1 h2 h3
  simp only [Int.toNat_natCast] at h1 h2 h3
  exact ⟨h1, h2, h3⟩
theorem below_drew' {w w' : World} {B : Nat} (h : Below B w.drew w') : Below B w w' := ⟨h.os, h.tape, h.output, h.size, h.block⟩
theorem turn_drew {W W' : World} {F : Nat → Prop} (h : Turn W.drew W' F) : Turn W W' F := ⟨h.os, h.tape, h.output, h.size, h.block⟩
theorem uniq_nodup {m : List It} (h : Uniq m) : m.Nodup := by
  unfold Uniq at h
  exact (List.nodup_iff_count.2 fun x => by
    have := List.nodup_iff_count.1 h x.1
    exact Nat.le_trans (List.count_le_count_map (f := Prod.fst)) this)
theorem rest_above {m : List It} (h : Uniq m) (hne : m ≠ []) : ∀ y ∈ m.erase (tp m), above (tp m) y = true := by
  intro y hy
  obtain ⟨h1, h2⟩ := tp_spec hne
  have hym := List.mem_of_mem_erase hy
  have hyn : y ≠ tp m := fun e => by
    rw [e] at hy
    exact (uniq_nodup h).not_mem_erase hy
  have h3 := h2 y hym
  rw [above_f] at h3
  rw [above_iff]
  have : y.1 ≠ (tp m).1 := fun e => hyn (h.inj hym h1 e)
  omega
theorem box_set {W : World} {lb : Nat} {z a b : Value} (h : W.heap[lb]? = some (.cells #[z, a, b] 28 (0, 0))) (z' a' b' : Value) :
    (((W.setCell ⟨lb, 0, none⟩ z').setCell ⟨lb, 1, none⟩ a').setCell ⟨lb, 2, none⟩ b').heap[lb]? = some (.cells #[z', a', b'] 28 (0, 0)) ∧ Turn W (((W.setCell ⟨lb, 0, none⟩ z').setCell ⟨lb, 1, none⟩ a').setCell ⟨lb, 2, none⟩ b') (fun k => k = lb) := by
  refine ⟨?_, rfl, rfl, rfl, by simp [World.setCell], fun k hk hn => ?_⟩
  · have h1 := blk_set (blk_set (blk_set h 0 z') 1 a') 2 b'
    exact h1
  · exact (Below.heap_setCell _ ⟨lb, 2, none⟩ _ k hn).trans ((Below.heap_setCell _ ⟨lb, 1, none⟩ _ k hn).trans (Below.heap_setCell _ ⟨lb, 0, none⟩ _ k hn))
theorem Own.box {w W W1 : World} {g K lb : Nat} {m : List It} {F : Nat → Prop} (h : Own w W g m K F) (ht : Turn W W1 (fun k => k = lb)) (hF : ∀ k, F k → k ≠ lb) (hl : w.heap.size ≤ lb) : Own w W1 g m K F :=
  ⟨h.is.other ht hF, h.foot, Turn.below h.below ht (fun k e => by rw [e]; exact hl)⟩
set_option maxHeartbeats 8000000 in
set_option maxRecDepth 100000 in
theorem pops_walk (ops : List S28) (A : Option Addr) (c : Nat) (hc : ops.length ≤ c) (hmax : ops.length ≤ 9223372036854775807) (w : World) (hC : Kd.C k28 w A ops.length ops) (hwf : ∀ x ∈ ops, (Lit.int .i64 x.f1).wf = true) :
    Calls Try.prog 3 #[.slice A ops.length c] w fun e w' => e = .returned (.bool true) ∧ Below w.heap.size w w' := by
  have HC := Lib.hid hC
  have HW := Lib.hid hwf
  clear hC hwf
  by_cases h150 : ops.length > 150
  · go_enter Try.func3, Try.ntmps3
    go_wp2_with (go_at_call 8; refine (heads_c _).mono ?_; rintro e w' ⟨rfl, hb⟩)
    go_ret
    exact ⟨rfl, hb⟩
  · go_enter Try.func3, Try.ntmps3
    go_wp2_with fail
    refine (new_o w w (Below.refl _ _)).mono ?_
    rintro e w1 ⟨g, F1, rfl, H1, -, -⟩
    go_wp2_with fail
    go_loopw [4, 5] (fun vn vi wr => ∃ (i : Nat) (m : List It) (K : Nat) (F : Nat → Prop), i ≤ ops.length ∧ vi = .int .i64 (i : Int) ∧ vn = .int .i64 (m.length : Int) ∧ m.length ≤ i ∧ Hid (K ≤ 5000 * i) ∧ Hid (Own w wr g m K F)) (fun _ vi _ => ops.length - (intOf vi).toNat)
    case atStart => exact ⟨0, [], 0, F1, Nat.zero_le _, rfl, rfl, Nat.le_refl _, Nat.le_refl _, H1.out⟩
    case round =>
      obtain ⟨i, m, K, F, hi, rfl, rfl, hmi, HK, HO⟩ := hrel
      by_cases hlt : i < ops.length
      · obtain ⟨ad, x, rfl, hx, hcells⟩ := op_cells HC.out i hlt
        obtain ⟨hk1, hk2, hk3⟩ := hcells wr HO.out.below
        have hxw := HW.out x (List.mem_of_getElem? hx)
        have hcap := cap2 K i (by omega) HK.out
        clear hx hcells
        go_wp2
        go_still_tail 11, (by kernel_rfl)
        go_wp2_with fail
        refine (push_o w wr.drew g m (by omega) K hcap F ⟨HO.out.is, HO.out.foot, below_drew HO.out.below⟩ x.f1 x.f2 hxw).mono ?_
        cases hf : (find m x.f1).isNone
        · rw [if_neg (by simp)]
          rintro e w2 ⟨rfl, K2, F2, H2, hK2, -, -⟩
          go_wp2
          go_roundw
          case rel => exact ⟨i + 1, m, K2, F2, by omega, by go_num, rfl, by omega, by have := HK.out; show K2 ≤ 5000 * (i + 1); omega, H2.out⟩
          case measure => simp [intOf]; omega
        · rw [if_pos rfl]
          rintro e w2 ⟨rfl, K2, F2, H2, hK2, -, -⟩
          go_wp2
          go_roundw
          case rel => exact ⟨i + 1, m ++ [(x.f1, x.f2)], K2, F2, by omega, by go_num, by simp, by simp; omega, by have := HK.out; show K2 ≤ 5000 * (i + 1); omega, H2.out⟩
          case measure => simp [intOf]; omega
      · go_wp2_with fail
        have hbx := blk_new wr (.cells #[.int .i64 0, .int .i64 0, .int .i64 0] 28)
        have hO2 : Own w (wr.alloc (.cells #[.int .i64 0, .int .i64 0, .int .i64 0] 28)) g m K F := HO.out.step ((Below.refl _ _).alloc (Nat.le_refl _) _)
        have hFl : ∀ k, F k → k ≠ wr.heap.size := fun k hk => Nat.ne_of_lt (HO.out.is.foot k hk).2
        have HFl := Lib.hid hFl
        have HO2 := Lib.hid hO2
        have Hbx := Lib.hid hbx
        have HKm : Hid (K ≤ 5000 * 150) := by have := HK.out; show K ≤ 5000 * 150; omega
        have hml : m.length ≤ 150 := by omega
        have hlbw : w.heap.size ≤ wr.heap.size := HO.out.below.size
        clear hbx hO2 hFl HO hmi HK hi hlt
        generalize wr.alloc (.cells #[.int .i64 0, .int .i64 0, .int .i64 0] 28) = w2 at *
        generalize wr.heap.size = lb at *
        obtain ⟨n, hn⟩ : ∃ n, n = m.length := ⟨_, rfl⟩
        rw [← hn]
        have hn150 : n ≤ 150 := by omega
        have Hn := Lib.hid hn
        clear hn hml
        go_loopw [7] (fun vi wq => ∃ (j : Nat) (q : List It) (K2 : Nat) (la : It) (z : Int), vi = .int .i64 (j : Int) ∧ j + q.length = n ∧ Hid (K2 ≤ 5000 * (150 + j)) ∧ Hid (Own w wq g q K2 F) ∧ Hid (wq.heap[lb]? = some (.cells #[.int .i64 z, .int .i64 la.1, .int .i64 la.2] 28 (0, 0))) ∧ Hid (0 < j → ∀ y ∈ q, above la y = true)) (fun vi _ => n - (intOf vi).toNat)
        case atStart => exact ⟨0, m, K, (0, 0), 0, rfl, by have := Hn.out; omega, HKm.out, HO2.out, Hbx.out, fun h => absurd h (by omega)⟩
        case round =>
          obtain ⟨j, q, K2, la, z, rfl, hjq, HK2, HOq, Hb, Hla⟩ := hrel
          by_cases hjn : j < n
          · have hq0 : 0 < q.length := by omega
            have hqd : decide (0 < q.length) = true := decide_eq_true hq0
            have hjn2 : (j : Int) < (n : Int) := by omega
            have hqne : q ≠ [] := by rintro rfl; simp at hq0
            have htm := (tp_spec hqne).1
            have hel : (q.erase (tp q)).length = q.length - 1 := List.length_erase_of_mem htm
            have Hra := Lib.hid (rest_above HOq.out.is.uniq hqne)
            have Hl2 : Hid (0 < j → above la (tp q) = true) := fun h => Hla.out h _ htm
            have hcap := cap2 K2 (150 + j) (by omega) HK2.out
            have Hel := Lib.hid hel
            clear hel htm hqne
            go_wp2_with fail
            refine (pop_o w wr g q (by omega) K2 hcap F HOq.out).mono ?_
            rw [hqd]
            rintro e w4 ⟨rfl, K4, H4, hK4, HT4⟩
            have hb4 : w4.heap[lb]? = some (.cells #[.int .i64 z, .int .i64 la.1, .int .i64 la.2] 28 (0, 0)) := (HT4.out.block lb (blk_lt Hb.out) (fun h => HFl.out lb h rfl)).trans Hb.out
            have hc1 : w4.cell? ⟨lb, 1, none⟩ = some (.int .i64 la.1) := (blk_cell hb4 1).trans rfl
            have hc2 : w4.cell? ⟨lb, 2, none⟩ = some (.int .i64 la.2) := (blk_cell hb4 2).trans rfl
            have hc0 : w4.cell? ⟨lb, 0, none⟩ = some (.int .i64 z) := (blk_cell hb4 0).trans rfl
            have hf0 : w4.frozen? ⟨lb, 0, none⟩ = false := blk_frozen hb4 0
            have hf1 : w4.frozen? ⟨lb, 1, none⟩ = false := blk_frozen hb4 1
            have hf2 : w4.frozen? ⟨lb, 2, none⟩ = false := blk_frozen hb4 2
            have Hb4 := Lib.hid hb4
            clear hb4
            generalize tp q = t at *
            by_cases hj0 : j = 0
            · subst hj0
              clear Hl2 Hla
              go_wp2
              have hbs := box_set Hb4.out (.int .i64 0) (.int .i64 t.1) (.int .i64 t.2)
              have HO5 := Lib.hid (Own.box H4.out hbs.2 HFl.out hlbw)
              have Hb5 := Lib.hid hbs.1
              clear hbs hc0 hc1 hc2 hf0 hf1 hf2
              go_roundw
              case rel => exact ⟨0 + 1, q.erase t, K4, t, 0, by go_num, by have := Hel.out; omega, by have := HK2.out; show K4 ≤ 5000 * (150 + (0 + 1)); omega, HO5.out, Hb5.out, fun _ => Hra.out⟩
              case measure => simp [intOf]; omega
            · have hj1 : (0 : Int) < (j : Int) := by omega
              have hab := above_iff.1 (Hl2.out (by omega))
              by_cases hlt2 : la.2 < t.2
              · have d1 : decide (t.2 < la.2) = false := decide_eq_false (by omega)
                have d2 : (t.2 == la.2) = false := beq_eq_false_iff_ne.2 (by omega)
                clear hab
                go_wp2
                have hbs := box_set Hb4.out (.int .i64 0) (.int .i64 t.1) (.int .i64 t.2)
                have HO5 := Lib.hid (Own.box H4.out hbs.2 HFl.out hlbw)
                have Hb5 := Lib.hid hbs.1
                clear hbs hc0 hc1 hc2 hf0 hf1 hf2
                go_roundw
                case rel => exact ⟨j + 1, q.erase t, K4, t, 0, by go_num, by have := Hel.out; omega, by have := HK2.out; show K4 ≤ 5000 * (150 + (j + 1)); omega, HO5.out, Hb5.out, fun _ => Hra.out⟩
                case measure => simp [intOf]; omega
              · have he : la.2 = t.2 := by omega
                have d1 : decide (t.2 < la.2) = false := decide_eq_false (by omega)
                have d2 : (t.2 == la.2) = true := beq_iff_eq.2 he.symm
                have d3 : decide (t.1 ≤ la.1) = false := decide_eq_false (by omega)
                clear hab he hlt2
                go_wp2
                have hbs := box_set Hb4.out (.int .i64 0) (.int .i64 t.1) (.int .i64 t.2)
                have HO5 := Lib.hid (Own.box H4.out hbs.2 HFl.out hlbw)
                have Hb5 := Lib.hid hbs.1
                clear hbs hc0 hc1 hc2 hf0 hf1 hf2
                go_roundw
                case rel => exact ⟨j + 1, q.erase t, K4, t, 0, by go_num, by have := Hel.out; omega, by have := HK2.out; show K4 ≤ 5000 * (150 + (j + 1)); omega, HO5.out, Hb5.out, fun _ => Hra.out⟩
                case measure => simp [intOf]; omega
          · have hq0 : q = [] := List.eq_nil_of_length_eq_zero (by omega)
            subst hq0
            have hcap := cap2 K2 (150 + j) (by simp at hjq; omega) HK2.out
            clear Hla Hb
            go_wp2_with fail
            refine (pop_o w wr g [] (by simp) K2 hcap F HOq.out).mono ?_
            rw [show tp [] = (0, 0) from rfl, show decide (0 < ([] : List It).length) = false from rfl, show ([] : List It).erase (0, 0) = [] from rfl]
            rintro e w4 ⟨rfl, K4, H4, hK4, HT4⟩
            go_wp2_with fail
            refine (len_m w4 w.heap.size g [] K4 F H4.out.is).mono ?_
            rintro e w5 ⟨rfl, ⟨m5, rfl⟩⟩
            go_wp2_with (go_at_call 8; refine (heads_c _).mono ?_; rintro e w' ⟨rfl, hb⟩)
            go_ret
            exact ⟨rfl, below_step (pw_below_drewN H4.out.below m5) hb⟩
end Go.Proofs.Ytdeefnhpechaiaa.PileK
