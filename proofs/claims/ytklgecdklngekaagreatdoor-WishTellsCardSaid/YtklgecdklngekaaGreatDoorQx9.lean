/- Laid by this session's own program (wip/drive.py) out of the translation: functions of the Go code as plain Lean functions, proofs that the code comes to them, a law's row (for every input it returns true, and its arguments read as before); no condition. Lean checks it. -/
import Derived.Test.YtklgecdklngekaaGreatDoorQx0
import Derived.Test.YtklgecdklngekaaGreatDoorQx1
import Derived.Test.YtklgecdklngekaaGreatDoorQx8
namespace Go.Proofs.YtklgecdklngekaaGreatDoor.Q
open Go.RowKit Go.Proofs.YtklgecdklngekaaGreatDoorW.PrintWords Go.Proofs.YtklgecdklngekaaGreatDoorW.PrintLast Go.Proofs.YtklgecdklngekaaGreatDoorW.PrintMore
attribute [local go_sem] max2_int min2_int max_two min_two max_three min_three max_four min_four   -- for this text's walks alone
set_option linter.unusedVariables false
set_option linter.unusedSimpArgs false
attribute [local go_sem high] eqA25
def horariumref44_Right.j0 : Nat → Bool → Int → Int → Int → Int → Int → Int → Int → Int → List Int → Int → Int → Bool → Int → Option (Bool)
  | 0, _, _, _, _, _, _, _, _, _, _, _, _, _, _ => none
  | k + 1, x10, x331000, x331001, x331002, x331003, x331004, x331005, x331006, x331007, x331008, x331009, x331010, x331011, x331012 => if x10 = true then (some false) else ((horariumref44_when.f x331000).bind fun t331 => (if t331 = true then ((horariumref44_number.f x331000).bind fun t332 => (if t332 = true then (if x331000 = 8 then (if x331001 = 0 then (some true) else (some false)) else ((horariumref44_bare.f x331007 x331008 x331009 x331010 x331011 x331012).bind fun t333 => (some t333))) else (if x331002 = 0 then (if x331000 = 8 then (if x331001 = 0 then (some true) else (some false)) else ((horariumref44_bare.f x331007 x331008 x331009 x331010 x331011 x331012).bind fun t334 => (some t334))) else (some false)))) else (if (!(x331003 == 0) || (!(x331004 == 0) || (!(x331005 == 0) || (!(x331006 == 0))))) = true then (some false) else ((horariumref44_number.f x331000).bind fun t335 => (if t335 = true then (if x331000 = 8 then (if x331001 = 0 then (some true) else (some false)) else ((horariumref44_bare.f x331007 x331008 x331009 x331010 x331011 x331012).bind fun t336 => (some t336))) else (if x331002 = 0 then (if x331000 = 8 then (if x331001 = 0 then (some true) else (some false)) else ((horariumref44_bare.f x331007 x331008 x331009 x331010 x331011 x331012).bind fun t337 => (some t337))) else (some false)))))))
def horariumref44_Right.f (k : Nat) (a0_0 : Int) (a0_1 : Int) (a0_2 : Int) (a0_3 : Int) (a0_4 : Int) (a0_5 : Int) (a0_6 : Int) (a0_7 : Int) (l0_8 : List Int) (a0_9 : Int) (a0_10 : Int) (a0_11 : Bool) (a0_12 : Int) : Option (Bool) := if a0_0 < 1 then (horariumref44_Right.j0 k true a0_0 a0_1 a0_2 a0_3 a0_4 a0_5 a0_6 a0_7 l0_8 a0_9 a0_10 a0_11 a0_12) else (horariumref44_Right.j0 k (decide (a0_0 > 10)) a0_0 a0_1 a0_2 a0_3 a0_4 a0_5 a0_6 a0_7 l0_8 a0_9 a0_10 a0_11 a0_12)
set_option maxHeartbeats 8000000 in
set_option maxRecDepth 100000 in
theorem horariumref44_Right.calls (k : Nat) (a0_0 : Int) (a0_1 : Int) (a0_2 : Int) (a0_3 : Int) (a0_4 : Int) (a0_5 : Int) (a0_6 : Int) (a0_7 : Int) (A0_8 : Option Addr) (c0_8 : Nat) (l0_8 : List Int) (a0_9 : Int) (a0_10 : Int) (a0_11 : Bool) (a0_12 : Int) (r : Bool) (w : World) (hr0_8 : Kd.C (Kd.int .i64) w A0_8 l0_8.length l0_8) (hc0_8 : l0_8.length ≤ c0_8) (h : horariumref44_Right.f k a0_0 a0_1 a0_2 a0_3 a0_4 a0_5 a0_6 a0_7 l0_8 a0_9 a0_10 a0_11 a0_12 = some r) :
    Calls Tryz.prog 7 #[.agg #[.int .i64 a0_0, .int .i64 a0_1, .int .i64 a0_2, .int .u32 a0_3, .int .u8 a0_4, .int .i64 a0_5, .int .i64 a0_6, .int .i64 a0_7, .slice A0_8 l0_8.length c0_8, .int .i64 a0_9, .int .i64 a0_10, .bool a0_11, .int .i64 a0_12]] w fun e w' => e = .returned (.bool r) ∧ Below w.heap.size w w' := by
  have hu31 := Tryz.underlying31
  have hu25 := Tryz.underlying25
  have hu29 := Tryz.underlying29
  have HR0_8 := Aside0.mk hr0_8
  have HC0_8 := Aside0.mk hc0_8
  clear hr0_8 hc0_8
  have HB := Aside0.mk (Below.refl w.heap.size w)
  have H : (if a0_0 < 1 then (horariumref44_Right.j0 k true a0_0 a0_1 a0_2 a0_3 a0_4 a0_5 a0_6 a0_7 l0_8 a0_9 a0_10 a0_11 a0_12) else (horariumref44_Right.j0 k (decide (a0_0 > 10)) a0_0 a0_1 a0_2 a0_3 a0_4 a0_5 a0_6 a0_7 l0_8 a0_9 a0_10 a0_11 a0_12)) = some r := h
  clear h
  have HC2 := Aside0.mk H
  clear H
  go_enter Tryz.func7, Tryz.ntmps7
  go_upto_region 1 with (first | ((with_reducible refine gate_dst (N := 1) rfl ?_); refine box_event ?hg (N := 1) ?hd (cs := #[.int .i64 a0_0, .int .i64 a0_1, .int .i64 a0_2, .int .u32 a0_3, .int .u8 a0_4, .int .i64 a0_5, .int .i64 a0_6, .int .i64 a0_7, .slice A0_8 l0_8.length c0_8, .int .i64 a0_9, .int .i64 a0_10, .bool a0_11, .int .i64 a0_12]) (t := 31) ?hr ?_; (case hd => rfl); (case hg => rfl); (case hr => first | (go_simp; done) | (go_simp; rfl)); intro gb330 hg w3 hbox hb; have n0_ := Aside0.mk (below_step (by repeat (first | (with_reducible first | exact HB.out | apply below_alloc | apply pw_below_drewN | apply below_drew1) | exact HB.out)) hb); have n1_ := Aside0.mk (hbox); have n2_ := Aside0.mk ((by rw [hg]; exact (below_size (by repeat (first | (with_reducible first | exact HB.out | apply below_alloc | apply pw_below_drewN | apply below_drew1) | exact HB.out))) : w.heap.size ≤ gb330)); have n3_ := Aside0.mk ((by rw [hg]; exact (below_size (by repeat (first | (with_reducible first | exact HB.out | apply below_alloc | apply pw_below_drewN | apply below_drew1) | exact HB.out))) : w.heap.size ≤ gb330)); clear HB; have HB := n0_; have BK330 := n1_; have GW330 := n2_; have GE330 := n3_; clear n0_ n1_ n2_ n3_; clear hb hbox hg))
  (try simp only [Act.put, List.setIfInBounds_toArray, List.set_cons_zero, List.set_cons_succ])
  go_cut [10] (fun v10 wc => ∃ (kq : Nat) (x10_1 : Bool), v10 = .bool x10_1 ∧ Aside0 (horariumref44_Right.j0 kq x10_1 a0_0 a0_1 a0_2 a0_3 a0_4 a0_5 a0_6 a0_7 l0_8 a0_9 a0_10 a0_11 a0_12 = some r) ∧ Aside0 (kq ≤ k) ∧ Aside0 (wc.heap[gb330]? = some (.cells #[.int .i64 a0_0, .int .i64 a0_1, .int .i64 a0_2, .int .u32 a0_3, .int .u8 a0_4, .int .i64 a0_5, .int .i64 a0_6, .int .i64 a0_7, (.slice A0_8 l0_8.length c0_8), .int .i64 a0_9, .int .i64 a0_10, .bool a0_11, .int .i64 a0_12] 31 (0, 0))) ∧ Aside0 (Below w.heap.size w wc))
  case first =>
    have H := HC2.out
    clear HC2
    by_cases c4 : a0_0 < 1
    · rw [if_pos c4] at H
      have c4b0 : decide (a0_0 < 1) = true := decide_eq_true c4
      clear c4
      (first | rw [c4b0] | (simp only [i64_w, i32_w]; rw [c4b0]) | skip)
      have H' := Aside0.mk H
      clear H
      have hcz5_0 : w3.cell? ⟨gb330, 0, none⟩ = some (.int .i64 a0_0) := (blk_cell BK330.out 0).trans rfl
      have hcz5_1 : w3.cell? ⟨gb330, 1, none⟩ = some (.int .i64 a0_1) := (blk_cell BK330.out 1).trans rfl
      have hcz5_2 : w3.cell? ⟨gb330, 2, none⟩ = some (.int .i64 a0_2) := (blk_cell BK330.out 2).trans rfl
      have hcz5_3 : w3.cell? ⟨gb330, 3, none⟩ = some (.int .u32 a0_3) := (blk_cell BK330.out 3).trans rfl
      have hcz5_4 : w3.cell? ⟨gb330, 4, none⟩ = some (.int .u8 a0_4) := (blk_cell BK330.out 4).trans rfl
      have hcz5_5 : w3.cell? ⟨gb330, 5, none⟩ = some (.int .i64 a0_5) := (blk_cell BK330.out 5).trans rfl
      have hcz5_6 : w3.cell? ⟨gb330, 6, none⟩ = some (.int .i64 a0_6) := (blk_cell BK330.out 6).trans rfl
      have hcz5_7 : w3.cell? ⟨gb330, 7, none⟩ = some (.int .i64 a0_7) := (blk_cell BK330.out 7).trans rfl
      have hcz5_8 : w3.cell? ⟨gb330, 8, none⟩ = some (.slice A0_8 l0_8.length c0_8) := (blk_cell BK330.out 8).trans rfl
      have hcz5_9 : w3.cell? ⟨gb330, 9, none⟩ = some (.int .i64 a0_9) := (blk_cell BK330.out 9).trans rfl
      have hcz5_10 : w3.cell? ⟨gb330, 10, none⟩ = some (.int .i64 a0_10) := (blk_cell BK330.out 10).trans rfl
      have hcz5_11 : w3.cell? ⟨gb330, 11, none⟩ = some (.bool a0_11) := (blk_cell BK330.out 11).trans rfl
      have hcz5_12 : w3.cell? ⟨gb330, 12, none⟩ = some (.int .i64 a0_12) := (blk_cell BK330.out 12).trans rfl
      have hfz5_0 := blk_frozen BK330.out 0
      have hfz5_1 := blk_frozen BK330.out 1
      have hfz5_2 := blk_frozen BK330.out 2
      have hfz5_3 := blk_frozen BK330.out 3
      have hfz5_4 := blk_frozen BK330.out 4
      have hfz5_5 := blk_frozen BK330.out 5
      have hfz5_6 := blk_frozen BK330.out 6
      have hfz5_7 := blk_frozen BK330.out 7
      have hfz5_8 := blk_frozen BK330.out 8
      have hfz5_9 := blk_frozen BK330.out 9
      have hfz5_10 := blk_frozen BK330.out 10
      have hfz5_11 := blk_frozen BK330.out 11
      have hfz5_12 := blk_frozen BK330.out 12
      go_wp2
      go_meet
      case rel => exact ⟨_, (true), (by first | rfl | (simp; done) | (simp [*]; done)), H', ⟨by first | omega | exact Nat.le_refl _⟩, ⟨by (with_reducible repeat (first | refine blk_drewN ?_ _ | refine blk_drew ?_ | refine blk_alloc ?_ _)); exact BK330.out⟩, ⟨by repeat (first | (with_reducible first | exact HB.out | apply below_alloc | apply pw_below_drewN | apply below_drew1 | refine below_set ?_ GE330.out) | exact HB.out)⟩⟩
    · rw [if_neg c4] at H
      have c4b0 : decide (a0_0 < 1) = false := decide_eq_false c4
      clear c4
      (first | rw [c4b0] | (simp only [i64_w, i32_w]; rw [c4b0]) | skip)
      have H' := Aside0.mk H
      clear H
      have hcz6_0 : w3.cell? ⟨gb330, 0, none⟩ = some (.int .i64 a0_0) := (blk_cell BK330.out 0).trans rfl
      have hcz6_1 : w3.cell? ⟨gb330, 1, none⟩ = some (.int .i64 a0_1) := (blk_cell BK330.out 1).trans rfl
      have hcz6_2 : w3.cell? ⟨gb330, 2, none⟩ = some (.int .i64 a0_2) := (blk_cell BK330.out 2).trans rfl
      have hcz6_3 : w3.cell? ⟨gb330, 3, none⟩ = some (.int .u32 a0_3) := (blk_cell BK330.out 3).trans rfl
      have hcz6_4 : w3.cell? ⟨gb330, 4, none⟩ = some (.int .u8 a0_4) := (blk_cell BK330.out 4).trans rfl
      have hcz6_5 : w3.cell? ⟨gb330, 5, none⟩ = some (.int .i64 a0_5) := (blk_cell BK330.out 5).trans rfl
      have hcz6_6 : w3.cell? ⟨gb330, 6, none⟩ = some (.int .i64 a0_6) := (blk_cell BK330.out 6).trans rfl
      have hcz6_7 : w3.cell? ⟨gb330, 7, none⟩ = some (.int .i64 a0_7) := (blk_cell BK330.out 7).trans rfl
      have hcz6_8 : w3.cell? ⟨gb330, 8, none⟩ = some (.slice A0_8 l0_8.length c0_8) := (blk_cell BK330.out 8).trans rfl
      have hcz6_9 : w3.cell? ⟨gb330, 9, none⟩ = some (.int .i64 a0_9) := (blk_cell BK330.out 9).trans rfl
      have hcz6_10 : w3.cell? ⟨gb330, 10, none⟩ = some (.int .i64 a0_10) := (blk_cell BK330.out 10).trans rfl
      have hcz6_11 : w3.cell? ⟨gb330, 11, none⟩ = some (.bool a0_11) := (blk_cell BK330.out 11).trans rfl
      have hcz6_12 : w3.cell? ⟨gb330, 12, none⟩ = some (.int .i64 a0_12) := (blk_cell BK330.out 12).trans rfl
      have hfz6_0 := blk_frozen BK330.out 0
      have hfz6_1 := blk_frozen BK330.out 1
      have hfz6_2 := blk_frozen BK330.out 2
      have hfz6_3 := blk_frozen BK330.out 3
      have hfz6_4 := blk_frozen BK330.out 4
      have hfz6_5 := blk_frozen BK330.out 5
      have hfz6_6 := blk_frozen BK330.out 6
      have hfz6_7 := blk_frozen BK330.out 7
      have hfz6_8 := blk_frozen BK330.out 8
      have hfz6_9 := blk_frozen BK330.out 9
      have hfz6_10 := blk_frozen BK330.out 10
      have hfz6_11 := blk_frozen BK330.out 11
      have hfz6_12 := blk_frozen BK330.out 12
      go_wp2
      go_meet
      case rel => exact ⟨_, (decide (a0_0 > 10)), (by first | rfl | (simp; done) | (simp [*]; done)), H', ⟨by first | omega | exact Nat.le_refl _⟩, ⟨by (with_reducible repeat (first | refine blk_drewN ?_ _ | refine blk_drew ?_ | refine blk_alloc ?_ _)); exact BK330.out⟩, ⟨by repeat (first | (with_reducible first | exact HB.out | apply below_alloc | apply pw_below_drewN | apply below_drew1 | refine below_set ?_ GE330.out) | exact HB.out)⟩⟩
  case rest =>
    clear HC2
    try clear p2
    try clear c4
    try clear c4b0
    try clear hcz5_0
    try clear hcz5_1
    try clear hcz5_10
    try clear hcz5_11
    try clear hcz5_12
    try clear hcz5_2
    try clear hcz5_3
    try clear hcz5_4
    try clear hcz5_5
    try clear hcz5_6
    try clear hcz5_7
    try clear hcz5_8
    try clear hcz5_9
    try clear hcz6_0
    try clear hcz6_1
    try clear hcz6_10
    try clear hcz6_11
    try clear hcz6_12
    try clear hcz6_2
    try clear hcz6_3
    try clear hcz6_4
    try clear hcz6_5
    try clear hcz6_6
    try clear hcz6_7
    try clear hcz6_8
    try clear hcz6_9
    try clear hfz5_0
    try clear hfz5_1
    try clear hfz5_10
    try clear hfz5_11
    try clear hfz5_12
    try clear hfz5_2
    try clear hfz5_3
    try clear hfz5_4
    try clear hfz5_5
    try clear hfz5_6
    try clear hfz5_7
    try clear hfz5_8
    try clear hfz5_9
    try clear hfz6_0
    try clear hfz6_1
    try clear hfz6_10
    try clear hfz6_11
    try clear hfz6_12
    try clear hfz6_2
    try clear hfz6_3
    try clear hfz6_4
    try clear hfz6_5
    try clear hfz6_6
    try clear hfz6_7
    try clear hfz6_8
    try clear hfz6_9
    obtain ⟨kq, x10_1, rfl, HA, HJ1, BK330, HB⟩ := hcut
    cases kq with
    | zero => exact absurd HA.out (by simp [horariumref44_Right.j0])
    | succ kj1 =>
      have H := HA.out
      clear HA
      simp only [horariumref44_Right.j0] at H
      by_cases c7 : x10_1 = true
      · subst c7
        have H1 : (some false) = some r := by rw [if_pos rfl] at H; exact H
        clear H
        have H := H1
        clear H1
        obtain rfl := Option.some.inj H
        go_wp2
        go_ret
        exact ⟨by first | rfl | (simp [errW_none, errW_some] <;> rfl) | (simp [*, errW_none, errW_some] <;> rfl), by repeat (first | (with_reducible first | exact HB.out | apply below_alloc | apply pw_below_drewN | apply below_drew1 | refine below_set ?_ GE330.out) | exact HB.out)⟩
      · replace c7 := Bool.eq_false_iff.mpr c7
        subst c7
        have H1 : ((horariumref44_when.f a0_0).bind fun t331 => (if t331 = true then ((horariumref44_number.f a0_0).bind fun t332 => (if t332 = true then (if a0_0 = 8 then (if a0_1 = 0 then (some true) else (some false)) else ((horariumref44_bare.f a0_7 l0_8 a0_9 a0_10 a0_11 a0_12).bind fun t333 => (some t333))) else (if a0_2 = 0 then (if a0_0 = 8 then (if a0_1 = 0 then (some true) else (some false)) else ((horariumref44_bare.f a0_7 l0_8 a0_9 a0_10 a0_11 a0_12).bind fun t334 => (some t334))) else (some false)))) else (if (!(a0_3 == 0) || (!(a0_4 == 0) || (!(a0_5 == 0) || (!(a0_6 == 0))))) = true then (some false) else ((horariumref44_number.f a0_0).bind fun t335 => (if t335 = true then (if a0_0 = 8 then (if a0_1 = 0 then (some true) else (some false)) else ((horariumref44_bare.f a0_7 l0_8 a0_9 a0_10 a0_11 a0_12).bind fun t336 => (some t336))) else (if a0_2 = 0 then (if a0_0 = 8 then (if a0_1 = 0 then (some true) else (some false)) else ((horariumref44_bare.f a0_7 l0_8 a0_9 a0_10 a0_11 a0_12).bind fun t337 => (some t337))) else (some false))))))) = some r := by rw [if_neg (show ¬ (false = true) by decide)] at H; exact H
        clear H
        have H := H1
        clear H1
        replace H := Option.bind_eq_some_iff.mp H
        obtain ⟨t331, A80, H⟩ := H
        replace H : (if t331 = true then ((horariumref44_number.f a0_0).bind fun t332 => (if t332 = true then (if a0_0 = 8 then (if a0_1 = 0 then (some true) else (some false)) else ((horariumref44_bare.f a0_7 l0_8 a0_9 a0_10 a0_11 a0_12).bind fun t333 => (some t333))) else (if a0_2 = 0 then (if a0_0 = 8 then (if a0_1 = 0 then (some true) else (some false)) else ((horariumref44_bare.f a0_7 l0_8 a0_9 a0_10 a0_11 a0_12).bind fun t334 => (some t334))) else (some false)))) else (if (!(a0_3 == 0) || (!(a0_4 == 0) || (!(a0_5 == 0) || (!(a0_6 == 0))))) = true then (some false) else ((horariumref44_number.f a0_0).bind fun t335 => (if t335 = true then (if a0_0 = 8 then (if a0_1 = 0 then (some true) else (some false)) else ((horariumref44_bare.f a0_7 l0_8 a0_9 a0_10 a0_11 a0_12).bind fun t336 => (some t336))) else (if a0_2 = 0 then (if a0_0 = 8 then (if a0_1 = 0 then (some true) else (some false)) else ((horariumref44_bare.f a0_7 l0_8 a0_9 a0_10 a0_11 a0_12).bind fun t337 => (some t337))) else (some false)))))) = some r := H
        have A8 := Aside0.mk A80
        clear A80
        by_cases c9 : t331 = true
        · subst c9
          have H1 : ((horariumref44_number.f a0_0).bind fun t332 => (if t332 = true then (if a0_0 = 8 then (if a0_1 = 0 then (some true) else (some false)) else ((horariumref44_bare.f a0_7 l0_8 a0_9 a0_10 a0_11 a0_12).bind fun t333 => (some t333))) else (if a0_2 = 0 then (if a0_0 = 8 then (if a0_1 = 0 then (some true) else (some false)) else ((horariumref44_bare.f a0_7 l0_8 a0_9 a0_10 a0_11 a0_12).bind fun t334 => (some t334))) else (some false)))) = some r := by rw [if_pos rfl] at H; exact H
          clear H
          have H := H1
          clear H1
          replace H := Option.bind_eq_some_iff.mp H
          obtain ⟨t332, A100, H⟩ := H
          replace H : (if t332 = true then (if a0_0 = 8 then (if a0_1 = 0 then (some true) else (some false)) else ((horariumref44_bare.f a0_7 l0_8 a0_9 a0_10 a0_11 a0_12).bind fun t333 => (some t333))) else (if a0_2 = 0 then (if a0_0 = 8 then (if a0_1 = 0 then (some true) else (some false)) else ((horariumref44_bare.f a0_7 l0_8 a0_9 a0_10 a0_11 a0_12).bind fun t334 => (some t334))) else (some false))) = some r := H
          have A10 := Aside0.mk A100
          clear A100
          by_cases c11 : t332 = true
          · subst c11
            have H1 : (if a0_0 = 8 then (if a0_1 = 0 then (some true) else (some false)) else ((horariumref44_bare.f a0_7 l0_8 a0_9 a0_10 a0_11 a0_12).bind fun t333 => (some t333))) = some r := by rw [if_pos rfl] at H; exact H
            clear H
            have H := H1
            clear H1
            by_cases c12 : a0_0 = 8
            · rw [if_pos c12] at H
              have c12b0 : (a0_0 == 8) = true := beq_iff_eq.mpr c12
              have c12b1 : (a0_0 != 8) = false := bne_eq_false_iff_eq.mpr c12
              clear c12
              by_cases c13 : a0_1 = 0
              · rw [if_pos c13] at H
                have c13b0 : (a0_1 == 0) = true := beq_iff_eq.mpr c13
                have c13b1 : (a0_1 != 0) = false := bne_eq_false_iff_eq.mpr c13
                clear c13
                obtain rfl := Option.some.inj H
                have hcz14_0 : wc.cell? ⟨gb330, 0, none⟩ = some (.int .i64 a0_0) := (blk_cell BK330.out 0).trans rfl
                have hcz14_1 : wc.cell? ⟨gb330, 1, none⟩ = some (.int .i64 a0_1) := (blk_cell BK330.out 1).trans rfl
                have hcz14_2 : wc.cell? ⟨gb330, 2, none⟩ = some (.int .i64 a0_2) := (blk_cell BK330.out 2).trans rfl
                have hcz14_3 : wc.cell? ⟨gb330, 3, none⟩ = some (.int .u32 a0_3) := (blk_cell BK330.out 3).trans rfl
                have hcz14_4 : wc.cell? ⟨gb330, 4, none⟩ = some (.int .u8 a0_4) := (blk_cell BK330.out 4).trans rfl
                have hcz14_5 : wc.cell? ⟨gb330, 5, none⟩ = some (.int .i64 a0_5) := (blk_cell BK330.out 5).trans rfl
                have hcz14_6 : wc.cell? ⟨gb330, 6, none⟩ = some (.int .i64 a0_6) := (blk_cell BK330.out 6).trans rfl
                have hcz14_7 : wc.cell? ⟨gb330, 7, none⟩ = some (.int .i64 a0_7) := (blk_cell BK330.out 7).trans rfl
                have hcz14_8 : wc.cell? ⟨gb330, 8, none⟩ = some (.slice A0_8 l0_8.length c0_8) := (blk_cell BK330.out 8).trans rfl
                have hcz14_9 : wc.cell? ⟨gb330, 9, none⟩ = some (.int .i64 a0_9) := (blk_cell BK330.out 9).trans rfl
                have hcz14_10 : wc.cell? ⟨gb330, 10, none⟩ = some (.int .i64 a0_10) := (blk_cell BK330.out 10).trans rfl
                have hcz14_11 : wc.cell? ⟨gb330, 11, none⟩ = some (.bool a0_11) := (blk_cell BK330.out 11).trans rfl
                have hcz14_12 : wc.cell? ⟨gb330, 12, none⟩ = some (.int .i64 a0_12) := (blk_cell BK330.out 12).trans rfl
                have hfz14_0 := blk_frozen BK330.out 0
                have hfz14_1 := blk_frozen BK330.out 1
                have hfz14_2 := blk_frozen BK330.out 2
                have hfz14_3 := blk_frozen BK330.out 3
                have hfz14_4 := blk_frozen BK330.out 4
                have hfz14_5 := blk_frozen BK330.out 5
                have hfz14_6 := blk_frozen BK330.out 6
                have hfz14_7 := blk_frozen BK330.out 7
                have hfz14_8 := blk_frozen BK330.out 8
                have hfz14_9 := blk_frozen BK330.out 9
                have hfz14_10 := blk_frozen BK330.out 10
                have hfz14_11 := blk_frozen BK330.out 11
                have hfz14_12 := blk_frozen BK330.out 12
                go_wp2_with (first | ((with_reducible refine gate_callee (f := 17) rfl ?_); refine goesL_ (some 13) rfl rfl Tryz.func17 (by kernel_rfl) rfl #[.int .i64 a0_0] rfl (by (try simp only [List.map_toArray, List.map_cons, List.map_nil]); first | done | rfl | (simp only [List.length_drop, List.length_take]; rfl)) ?_; (with_reducible refine (horariumref44_when.calls a0_0 true _ A8.out).mono ?_); rintro e w' ⟨rfl, ⟨nd, rfl⟩⟩; refine ⟨_, rfl, ?_⟩) | (go_at_call 18; (with_reducible refine (horariumref44_number.calls a0_0 true _ A10.out).mono ?_); rintro e w' ⟨rfl, ⟨nd, rfl⟩⟩))
                go_ret
                exact ⟨by first | rfl | (simp [errW_none, errW_some] <;> rfl) | (simp [*, errW_none, errW_some] <;> rfl), by repeat (first | (with_reducible first | exact HB.out | apply below_alloc | apply pw_below_drewN | apply below_drew1 | refine below_set ?_ GE330.out) | exact HB.out)⟩
              · rw [if_neg c13] at H
                have c13b0 : (a0_1 == 0) = false := beq_eq_false_iff_ne.mpr c13
                have c13b1 : (a0_1 != 0) = true := bne_iff_ne.mpr c13
                obtain rfl := Option.some.inj H
                have hcz15_0 : wc.cell? ⟨gb330, 0, none⟩ = some (.int .i64 a0_0) := (blk_cell BK330.out 0).trans rfl
                have hcz15_1 : wc.cell? ⟨gb330, 1, none⟩ = some (.int .i64 a0_1) := (blk_cell BK330.out 1).trans rfl
                have hcz15_2 : wc.cell? ⟨gb330, 2, none⟩ = some (.int .i64 a0_2) := (blk_cell BK330.out 2).trans rfl
                have hcz15_3 : wc.cell? ⟨gb330, 3, none⟩ = some (.int .u32 a0_3) := (blk_cell BK330.out 3).trans rfl
                have hcz15_4 : wc.cell? ⟨gb330, 4, none⟩ = some (.int .u8 a0_4) := (blk_cell BK330.out 4).trans rfl
                have hcz15_5 : wc.cell? ⟨gb330, 5, none⟩ = some (.int .i64 a0_5) := (blk_cell BK330.out 5).trans rfl
                have hcz15_6 : wc.cell? ⟨gb330, 6, none⟩ = some (.int .i64 a0_6) := (blk_cell BK330.out 6).trans rfl
                have hcz15_7 : wc.cell? ⟨gb330, 7, none⟩ = some (.int .i64 a0_7) := (blk_cell BK330.out 7).trans rfl
                have hcz15_8 : wc.cell? ⟨gb330, 8, none⟩ = some (.slice A0_8 l0_8.length c0_8) := (blk_cell BK330.out 8).trans rfl
                have hcz15_9 : wc.cell? ⟨gb330, 9, none⟩ = some (.int .i64 a0_9) := (blk_cell BK330.out 9).trans rfl
                have hcz15_10 : wc.cell? ⟨gb330, 10, none⟩ = some (.int .i64 a0_10) := (blk_cell BK330.out 10).trans rfl
                have hcz15_11 : wc.cell? ⟨gb330, 11, none⟩ = some (.bool a0_11) := (blk_cell BK330.out 11).trans rfl
                have hcz15_12 : wc.cell? ⟨gb330, 12, none⟩ = some (.int .i64 a0_12) := (blk_cell BK330.out 12).trans rfl
                have hfz15_0 := blk_frozen BK330.out 0
                have hfz15_1 := blk_frozen BK330.out 1
                have hfz15_2 := blk_frozen BK330.out 2
                have hfz15_3 := blk_frozen BK330.out 3
                have hfz15_4 := blk_frozen BK330.out 4
                have hfz15_5 := blk_frozen BK330.out 5
                have hfz15_6 := blk_frozen BK330.out 6
                have hfz15_7 := blk_frozen BK330.out 7
                have hfz15_8 := blk_frozen BK330.out 8
                have hfz15_9 := blk_frozen BK330.out 9
                have hfz15_10 := blk_frozen BK330.out 10
                have hfz15_11 := blk_frozen BK330.out 11
                have hfz15_12 := blk_frozen BK330.out 12
                go_wp2_with (first | ((with_reducible refine gate_callee (f := 17) rfl ?_); refine goesL_ (some 13) rfl rfl Tryz.func17 (by kernel_rfl) rfl #[.int .i64 a0_0] rfl (by (try simp only [List.map_toArray, List.map_cons, List.map_nil]); first | done | rfl | (simp only [List.length_drop, List.length_take]; rfl)) ?_; (with_reducible refine (horariumref44_when.calls a0_0 true _ A8.out).mono ?_); rintro e w' ⟨rfl, ⟨nd, rfl⟩⟩; refine ⟨_, rfl, ?_⟩) | (go_at_call 18; (with_reducible refine (horariumref44_number.calls a0_0 true _ A10.out).mono ?_); rintro e w' ⟨rfl, ⟨nd, rfl⟩⟩))
                go_ret
                exact ⟨by first | rfl | (simp [errW_none, errW_some] <;> rfl) | (simp [*, errW_none, errW_some] <;> rfl), by repeat (first | (with_reducible first | exact HB.out | apply below_alloc | apply pw_below_drewN | apply below_drew1 | refine below_set ?_ GE330.out) | exact HB.out)⟩
            · rw [if_neg c12] at H
              have c12b0 : (a0_0 == 8) = false := beq_eq_false_iff_ne.mpr c12
              have c12b1 : (a0_0 != 8) = true := bne_iff_ne.mpr c12
              replace H := Option.bind_eq_some_iff.mp H
              obtain ⟨t333, A160, H⟩ := H
              replace H : (some t333) = some r := H
              have A16 := Aside0.mk A160
              clear A160
              obtain rfl := Option.some.inj H
              have hcz17_0 : wc.cell? ⟨gb330, 0, none⟩ = some (.int .i64 a0_0) := (blk_cell BK330.out 0).trans rfl
              have hcz17_1 : wc.cell? ⟨gb330, 1, none⟩ = some (.int .i64 a0_1) := (blk_cell BK330.out 1).trans rfl
              have hcz17_2 : wc.cell? ⟨gb330, 2, none⟩ = some (.int .i64 a0_2) := (blk_cell BK330.out 2).trans rfl
              have hcz17_3 : wc.cell? ⟨gb330, 3, none⟩ = some (.int .u32 a0_3) := (blk_cell BK330.out 3).trans rfl
              have hcz17_4 : wc.cell? ⟨gb330, 4, none⟩ = some (.int .u8 a0_4) := (blk_cell BK330.out 4).trans rfl
              have hcz17_5 : wc.cell? ⟨gb330, 5, none⟩ = some (.int .i64 a0_5) := (blk_cell BK330.out 5).trans rfl
              have hcz17_6 : wc.cell? ⟨gb330, 6, none⟩ = some (.int .i64 a0_6) := (blk_cell BK330.out 6).trans rfl
              have hcz17_7 : wc.cell? ⟨gb330, 7, none⟩ = some (.int .i64 a0_7) := (blk_cell BK330.out 7).trans rfl
              have hcz17_8 : wc.cell? ⟨gb330, 8, none⟩ = some (.slice A0_8 l0_8.length c0_8) := (blk_cell BK330.out 8).trans rfl
              have hcz17_9 : wc.cell? ⟨gb330, 9, none⟩ = some (.int .i64 a0_9) := (blk_cell BK330.out 9).trans rfl
              have hcz17_10 : wc.cell? ⟨gb330, 10, none⟩ = some (.int .i64 a0_10) := (blk_cell BK330.out 10).trans rfl
              have hcz17_11 : wc.cell? ⟨gb330, 11, none⟩ = some (.bool a0_11) := (blk_cell BK330.out 11).trans rfl
              have hcz17_12 : wc.cell? ⟨gb330, 12, none⟩ = some (.int .i64 a0_12) := (blk_cell BK330.out 12).trans rfl
              have hfz17_0 := blk_frozen BK330.out 0
              have hfz17_1 := blk_frozen BK330.out 1
              have hfz17_2 := blk_frozen BK330.out 2
              have hfz17_3 := blk_frozen BK330.out 3
              have hfz17_4 := blk_frozen BK330.out 4
              have hfz17_5 := blk_frozen BK330.out 5
              have hfz17_6 := blk_frozen BK330.out 6
              have hfz17_7 := blk_frozen BK330.out 7
              have hfz17_8 := blk_frozen BK330.out 8
              have hfz17_9 := blk_frozen BK330.out 9
              have hfz17_10 := blk_frozen BK330.out 10
              have hfz17_11 := blk_frozen BK330.out 11
              have hfz17_12 := blk_frozen BK330.out 12
              go_wp2_with (first | ((with_reducible refine gate_callee (f := 17) rfl ?_); refine goesL_ (some 13) rfl rfl Tryz.func17 (by kernel_rfl) rfl #[.int .i64 a0_0] rfl (by (try simp only [List.map_toArray, List.map_cons, List.map_nil]); first | done | rfl | (simp only [List.length_drop, List.length_take]; rfl)) ?_; (with_reducible refine (horariumref44_when.calls a0_0 true _ A8.out).mono ?_); rintro e w' ⟨rfl, ⟨nd, rfl⟩⟩; refine ⟨_, rfl, ?_⟩) | (go_at_call 18; (with_reducible refine (horariumref44_number.calls a0_0 true _ A10.out).mono ?_); rintro e w' ⟨rfl, ⟨nd, rfl⟩⟩) | (go_at_call 19; (with_reducible refine (horariumref44_bare.calls a0_7 _ _ l0_8 a0_9 a0_10 a0_11 a0_12 t333 _ ?side1 ?side2 A16.out).mono ?_); (case side1 => repeat (first | exact (Kd.C_below HR0_8.out (by repeat (first | (with_reducible first | exact HB.out | apply below_alloc | apply pw_below_drewN | apply below_drew1 | refine below_set ?_ GE330.out) | exact HB.out))) | (with_reducible refine Kd.C_alloc ?_ _) | (with_reducible refine Kd.C_drewN ?_ _) | (with_reducible refine Kd.C_drew ?_))); (case side2 => exact HC0_8.out); rintro e w18 ⟨rfl, hb⟩; have n0_ := Aside0.mk (blk_below (g := gb330) (o := .cells #[.int .i64 a0_0, .int .i64 a0_1, .int .i64 a0_2, .int .u32 a0_3, .int .u8 a0_4, .int .i64 a0_5, .int .i64 a0_6, .int .i64 a0_7, .slice A0_8 l0_8.length c0_8, .int .i64 a0_9, .int .i64 a0_10, .bool a0_11, .int .i64 a0_12] 31 (0, 0)) (by (with_reducible repeat (first | refine blk_drewN ?_ _ | refine blk_drew ?_ | refine blk_alloc ?_ _)); exact BK330.out) hb); have n1_ := Aside0.mk (below_step (by repeat (first | (with_reducible first | exact HB.out | apply below_alloc | apply pw_below_drewN | apply below_drew1 | refine below_set ?_ GE330.out) | exact HB.out)) hb); clear BK330; clear HB; have BK330 := n0_; have HB := n1_; clear n0_ n1_; (try clear hb); (try clear hb2); (try clear hk); (try clear hi)))
              go_ret
              exact ⟨by first | rfl | (simp [errW_none, errW_some] <;> rfl) | (simp [*, errW_none, errW_some] <;> rfl), by repeat (first | (with_reducible first | exact HB.out | apply below_alloc | apply pw_below_drewN | apply below_drew1 | refine below_set ?_ GE330.out) | exact HB.out)⟩
          · replace c11 := Bool.eq_false_iff.mpr c11
            subst c11
            have H1 : (if a0_2 = 0 then (if a0_0 = 8 then (if a0_1 = 0 then (some true) else (some false)) else ((horariumref44_bare.f a0_7 l0_8 a0_9 a0_10 a0_11 a0_12).bind fun t334 => (some t334))) else (some false)) = some r := by rw [if_neg (show ¬ (false = true) by decide)] at H; exact H
            clear H
            have H := H1
            clear H1
            by_cases c19 : a0_2 = 0
            · rw [if_pos c19] at H
              have c19b0 : (a0_2 == 0) = true := beq_iff_eq.mpr c19
              have c19b1 : (a0_2 != 0) = false := bne_eq_false_iff_eq.mpr c19
              clear c19
              by_cases c20 : a0_0 = 8
              · rw [if_pos c20] at H
                have c20b0 : (a0_0 == 8) = true := beq_iff_eq.mpr c20
                have c20b1 : (a0_0 != 8) = false := bne_eq_false_iff_eq.mpr c20
                clear c20
                by_cases c21 : a0_1 = 0
                · rw [if_pos c21] at H
                  have c21b0 : (a0_1 == 0) = true := beq_iff_eq.mpr c21
                  have c21b1 : (a0_1 != 0) = false := bne_eq_false_iff_eq.mpr c21
                  clear c21
                  obtain rfl := Option.some.inj H
                  have hcz22_0 : wc.cell? ⟨gb330, 0, none⟩ = some (.int .i64 a0_0) := (blk_cell BK330.out 0).trans rfl
                  have hcz22_1 : wc.cell? ⟨gb330, 1, none⟩ = some (.int .i64 a0_1) := (blk_cell BK330.out 1).trans rfl
                  have hcz22_2 : wc.cell? ⟨gb330, 2, none⟩ = some (.int .i64 a0_2) := (blk_cell BK330.out 2).trans rfl
                  have hcz22_3 : wc.cell? ⟨gb330, 3, none⟩ = some (.int .u32 a0_3) := (blk_cell BK330.out 3).trans rfl
                  have hcz22_4 : wc.cell? ⟨gb330, 4, none⟩ = some (.int .u8 a0_4) := (blk_cell BK330.out 4).trans rfl
                  have hcz22_5 : wc.cell? ⟨gb330, 5, none⟩ = some (.int .i64 a0_5) := (blk_cell BK330.out 5).trans rfl
                  have hcz22_6 : wc.cell? ⟨gb330, 6, none⟩ = some (.int .i64 a0_6) := (blk_cell BK330.out 6).trans rfl
                  have hcz22_7 : wc.cell? ⟨gb330, 7, none⟩ = some (.int .i64 a0_7) := (blk_cell BK330.out 7).trans rfl
                  have hcz22_8 : wc.cell? ⟨gb330, 8, none⟩ = some (.slice A0_8 l0_8.length c0_8) := (blk_cell BK330.out 8).trans rfl
                  have hcz22_9 : wc.cell? ⟨gb330, 9, none⟩ = some (.int .i64 a0_9) := (blk_cell BK330.out 9).trans rfl
                  have hcz22_10 : wc.cell? ⟨gb330, 10, none⟩ = some (.int .i64 a0_10) := (blk_cell BK330.out 10).trans rfl
                  have hcz22_11 : wc.cell? ⟨gb330, 11, none⟩ = some (.bool a0_11) := (blk_cell BK330.out 11).trans rfl
                  have hcz22_12 : wc.cell? ⟨gb330, 12, none⟩ = some (.int .i64 a0_12) := (blk_cell BK330.out 12).trans rfl
                  have hfz22_0 := blk_frozen BK330.out 0
                  have hfz22_1 := blk_frozen BK330.out 1
                  have hfz22_2 := blk_frozen BK330.out 2
                  have hfz22_3 := blk_frozen BK330.out 3
                  have hfz22_4 := blk_frozen BK330.out 4
                  have hfz22_5 := blk_frozen BK330.out 5
                  have hfz22_6 := blk_frozen BK330.out 6
                  have hfz22_7 := blk_frozen BK330.out 7
                  have hfz22_8 := blk_frozen BK330.out 8
                  have hfz22_9 := blk_frozen BK330.out 9
                  have hfz22_10 := blk_frozen BK330.out 10
                  have hfz22_11 := blk_frozen BK330.out 11
                  have hfz22_12 := blk_frozen BK330.out 12
                  go_wp2_with (first | ((with_reducible refine gate_callee (f := 17) rfl ?_); refine goesL_ (some 13) rfl rfl Tryz.func17 (by kernel_rfl) rfl #[.int .i64 a0_0] rfl (by (try simp only [List.map_toArray, List.map_cons, List.map_nil]); first | done | rfl | (simp only [List.length_drop, List.length_take]; rfl)) ?_; (with_reducible refine (horariumref44_when.calls a0_0 true _ A8.out).mono ?_); rintro e w' ⟨rfl, ⟨nd, rfl⟩⟩; refine ⟨_, rfl, ?_⟩) | (go_at_call 18; (with_reducible refine (horariumref44_number.calls a0_0 false _ A10.out).mono ?_); rintro e w' ⟨rfl, ⟨nd, rfl⟩⟩))
                  go_ret
                  exact ⟨by first | rfl | (simp [errW_none, errW_some] <;> rfl) | (simp [*, errW_none, errW_some] <;> rfl), by repeat (first | (with_reducible first | exact HB.out | apply below_alloc | apply pw_below_drewN | apply below_drew1 | refine below_set ?_ GE330.out) | exact HB.out)⟩
                · rw [if_neg c21] at H
                  have c21b0 : (a0_1 == 0) = false := beq_eq_false_iff_ne.mpr c21
                  have c21b1 : (a0_1 != 0) = true := bne_iff_ne.mpr c21
                  obtain rfl := Option.some.inj H
                  have hcz23_0 : wc.cell? ⟨gb330, 0, none⟩ = some (.int .i64 a0_0) := (blk_cell BK330.out 0).trans rfl
                  have hcz23_1 : wc.cell? ⟨gb330, 1, none⟩ = some (.int .i64 a0_1) := (blk_cell BK330.out 1).trans rfl
                  have hcz23_2 : wc.cell? ⟨gb330, 2, none⟩ = some (.int .i64 a0_2) := (blk_cell BK330.out 2).trans rfl
                  have hcz23_3 : wc.cell? ⟨gb330, 3, none⟩ = some (.int .u32 a0_3) := (blk_cell BK330.out 3).trans rfl
                  have hcz23_4 : wc.cell? ⟨gb330, 4, none⟩ = some (.int .u8 a0_4) := (blk_cell BK330.out 4).trans rfl
                  have hcz23_5 : wc.cell? ⟨gb330, 5, none⟩ = some (.int .i64 a0_5) := (blk_cell BK330.out 5).trans rfl
                  have hcz23_6 : wc.cell? ⟨gb330, 6, none⟩ = some (.int .i64 a0_6) := (blk_cell BK330.out 6).trans rfl
                  have hcz23_7 : wc.cell? ⟨gb330, 7, none⟩ = some (.int .i64 a0_7) := (blk_cell BK330.out 7).trans rfl
                  have hcz23_8 : wc.cell? ⟨gb330, 8, none⟩ = some (.slice A0_8 l0_8.length c0_8) := (blk_cell BK330.out 8).trans rfl
                  have hcz23_9 : wc.cell? ⟨gb330, 9, none⟩ = some (.int .i64 a0_9) := (blk_cell BK330.out 9).trans rfl
                  have hcz23_10 : wc.cell? ⟨gb330, 10, none⟩ = some (.int .i64 a0_10) := (blk_cell BK330.out 10).trans rfl
                  have hcz23_11 : wc.cell? ⟨gb330, 11, none⟩ = some (.bool a0_11) := (blk_cell BK330.out 11).trans rfl
                  have hcz23_12 : wc.cell? ⟨gb330, 12, none⟩ = some (.int .i64 a0_12) := (blk_cell BK330.out 12).trans rfl
                  have hfz23_0 := blk_frozen BK330.out 0
                  have hfz23_1 := blk_frozen BK330.out 1
                  have hfz23_2 := blk_frozen BK330.out 2
                  have hfz23_3 := blk_frozen BK330.out 3
                  have hfz23_4 := blk_frozen BK330.out 4
                  have hfz23_5 := blk_frozen BK330.out 5
                  have hfz23_6 := blk_frozen BK330.out 6
                  have hfz23_7 := blk_frozen BK330.out 7
                  have hfz23_8 := blk_frozen BK330.out 8
                  have hfz23_9 := blk_frozen BK330.out 9
                  have hfz23_10 := blk_frozen BK330.out 10
                  have hfz23_11 := blk_frozen BK330.out 11
                  have hfz23_12 := blk_frozen BK330.out 12
                  go_wp2_with (first | ((with_reducible refine gate_callee (f := 17) rfl ?_); refine goesL_ (some 13) rfl rfl Tryz.func17 (by kernel_rfl) rfl #[.int .i64 a0_0] rfl (by (try simp only [List.map_toArray, List.map_cons, List.map_nil]); first | done | rfl | (simp only [List.length_drop, List.length_take]; rfl)) ?_; (with_reducible refine (horariumref44_when.calls a0_0 true _ A8.out).mono ?_); rintro e w' ⟨rfl, ⟨nd, rfl⟩⟩; refine ⟨_, rfl, ?_⟩) | (go_at_call 18; (with_reducible refine (horariumref44_number.calls a0_0 false _ A10.out).mono ?_); rintro e w' ⟨rfl, ⟨nd, rfl⟩⟩))
                  go_ret
                  exact ⟨by first | rfl | (simp [errW_none, errW_some] <;> rfl) | (simp [*, errW_none, errW_some] <;> rfl), by repeat (first | (with_reducible first | exact HB.out | apply below_alloc | apply pw_below_drewN | apply below_drew1 | refine below_set ?_ GE330.out) | exact HB.out)⟩
              · rw [if_neg c20] at H
                have c20b0 : (a0_0 == 8) = false := beq_eq_false_iff_ne.mpr c20
                have c20b1 : (a0_0 != 8) = true := bne_iff_ne.mpr c20
                replace H := Option.bind_eq_some_iff.mp H
                obtain ⟨t334, A240, H⟩ := H
                replace H : (some t334) = some r := H
                have A24 := Aside0.mk A240
                clear A240
                obtain rfl := Option.some.inj H
                have hcz25_0 : wc.cell? ⟨gb330, 0, none⟩ = some (.int .i64 a0_0) := (blk_cell BK330.out 0).trans rfl
                have hcz25_1 : wc.cell? ⟨gb330, 1, none⟩ = some (.int .i64 a0_1) := (blk_cell BK330.out 1).trans rfl
                have hcz25_2 : wc.cell? ⟨gb330, 2, none⟩ = some (.int .i64 a0_2) := (blk_cell BK330.out 2).trans rfl
                have hcz25_3 : wc.cell? ⟨gb330, 3, none⟩ = some (.int .u32 a0_3) := (blk_cell BK330.out 3).trans rfl
                have hcz25_4 : wc.cell? ⟨gb330, 4, none⟩ = some (.int .u8 a0_4) := (blk_cell BK330.out 4).trans rfl
                have hcz25_5 : wc.cell? ⟨gb330, 5, none⟩ = some (.int .i64 a0_5) := (blk_cell BK330.out 5).trans rfl
                have hcz25_6 : wc.cell? ⟨gb330, 6, none⟩ = some (.int .i64 a0_6) := (blk_cell BK330.out 6).trans rfl
                have hcz25_7 : wc.cell? ⟨gb330, 7, none⟩ = some (.int .i64 a0_7) := (blk_cell BK330.out 7).trans rfl
                have hcz25_8 : wc.cell? ⟨gb330, 8, none⟩ = some (.slice A0_8 l0_8.length c0_8) := (blk_cell BK330.out 8).trans rfl
                have hcz25_9 : wc.cell? ⟨gb330, 9, none⟩ = some (.int .i64 a0_9) := (blk_cell BK330.out 9).trans rfl
                have hcz25_10 : wc.cell? ⟨gb330, 10, none⟩ = some (.int .i64 a0_10) := (blk_cell BK330.out 10).trans rfl
                have hcz25_11 : wc.cell? ⟨gb330, 11, none⟩ = some (.bool a0_11) := (blk_cell BK330.out 11).trans rfl
                have hcz25_12 : wc.cell? ⟨gb330, 12, none⟩ = some (.int .i64 a0_12) := (blk_cell BK330.out 12).trans rfl
                have hfz25_0 := blk_frozen BK330.out 0
                have hfz25_1 := blk_frozen BK330.out 1
                have hfz25_2 := blk_frozen BK330.out 2
                have hfz25_3 := blk_frozen BK330.out 3
                have hfz25_4 := blk_frozen BK330.out 4
                have hfz25_5 := blk_frozen BK330.out 5
                have hfz25_6 := blk_frozen BK330.out 6
                have hfz25_7 := blk_frozen BK330.out 7
                have hfz25_8 := blk_frozen BK330.out 8
                have hfz25_9 := blk_frozen BK330.out 9
                have hfz25_10 := blk_frozen BK330.out 10
                have hfz25_11 := blk_frozen BK330.out 11
                have hfz25_12 := blk_frozen BK330.out 12
                go_wp2_with (first | ((with_reducible refine gate_callee (f := 17) rfl ?_); refine goesL_ (some 13) rfl rfl Tryz.func17 (by kernel_rfl) rfl #[.int .i64 a0_0] rfl (by (try simp only [List.map_toArray, List.map_cons, List.map_nil]); first | done | rfl | (simp only [List.length_drop, List.length_take]; rfl)) ?_; (with_reducible refine (horariumref44_when.calls a0_0 true _ A8.out).mono ?_); rintro e w' ⟨rfl, ⟨nd, rfl⟩⟩; refine ⟨_, rfl, ?_⟩) | (go_at_call 18; (with_reducible refine (horariumref44_number.calls a0_0 false _ A10.out).mono ?_); rintro e w' ⟨rfl, ⟨nd, rfl⟩⟩) | (go_at_call 19; (with_reducible refine (horariumref44_bare.calls a0_7 _ _ l0_8 a0_9 a0_10 a0_11 a0_12 t334 _ ?side1 ?side2 A24.out).mono ?_); (case side1 => repeat (first | exact (Kd.C_below HR0_8.out (by repeat (first | (with_reducible first | exact HB.out | apply below_alloc | apply pw_below_drewN | apply below_drew1 | refine below_set ?_ GE330.out) | exact HB.out))) | (with_reducible refine Kd.C_alloc ?_ _) | (with_reducible refine Kd.C_drewN ?_ _) | (with_reducible refine Kd.C_drew ?_))); (case side2 => exact HC0_8.out); rintro e w26 ⟨rfl, hb⟩; have n0_ := Aside0.mk (blk_below (g := gb330) (o := .cells #[.int .i64 a0_0, .int .i64 a0_1, .int .i64 a0_2, .int .u32 a0_3, .int .u8 a0_4, .int .i64 a0_5, .int .i64 a0_6, .int .i64 a0_7, .slice A0_8 l0_8.length c0_8, .int .i64 a0_9, .int .i64 a0_10, .bool a0_11, .int .i64 a0_12] 31 (0, 0)) (by (with_reducible repeat (first | refine blk_drewN ?_ _ | refine blk_drew ?_ | refine blk_alloc ?_ _)); exact BK330.out) hb); have n1_ := Aside0.mk (below_step (by repeat (first | (with_reducible first | exact HB.out | apply below_alloc | apply pw_below_drewN | apply below_drew1 | refine below_set ?_ GE330.out) | exact HB.out)) hb); clear BK330; clear HB; have BK330 := n0_; have HB := n1_; clear n0_ n1_; (try clear hb); (try clear hb2); (try clear hk); (try clear hi)))
                go_ret
                exact ⟨by first | rfl | (simp [errW_none, errW_some] <;> rfl) | (simp [*, errW_none, errW_some] <;> rfl), by repeat (first | (with_reducible first | exact HB.out | apply below_alloc | apply pw_below_drewN | apply below_drew1 | refine below_set ?_ GE330.out) | exact HB.out)⟩
            · rw [if_neg c19] at H
              have c19b0 : (a0_2 == 0) = false := beq_eq_false_iff_ne.mpr c19
              have c19b1 : (a0_2 != 0) = true := bne_iff_ne.mpr c19
              obtain rfl := Option.some.inj H
              have hcz27_0 : wc.cell? ⟨gb330, 0, none⟩ = some (.int .i64 a0_0) := (blk_cell BK330.out 0).trans rfl
              have hcz27_1 : wc.cell? ⟨gb330, 1, none⟩ = some (.int .i64 a0_1) := (blk_cell BK330.out 1).trans rfl
              have hcz27_2 : wc.cell? ⟨gb330, 2, none⟩ = some (.int .i64 a0_2) := (blk_cell BK330.out 2).trans rfl
              have hcz27_3 : wc.cell? ⟨gb330, 3, none⟩ = some (.int .u32 a0_3) := (blk_cell BK330.out 3).trans rfl
              have hcz27_4 : wc.cell? ⟨gb330, 4, none⟩ = some (.int .u8 a0_4) := (blk_cell BK330.out 4).trans rfl
              have hcz27_5 : wc.cell? ⟨gb330, 5, none⟩ = some (.int .i64 a0_5) := (blk_cell BK330.out 5).trans rfl
              have hcz27_6 : wc.cell? ⟨gb330, 6, none⟩ = some (.int .i64 a0_6) := (blk_cell BK330.out 6).trans rfl
              have hcz27_7 : wc.cell? ⟨gb330, 7, none⟩ = some (.int .i64 a0_7) := (blk_cell BK330.out 7).trans rfl
              have hcz27_8 : wc.cell? ⟨gb330, 8, none⟩ = some (.slice A0_8 l0_8.length c0_8) := (blk_cell BK330.out 8).trans rfl
              have hcz27_9 : wc.cell? ⟨gb330, 9, none⟩ = some (.int .i64 a0_9) := (blk_cell BK330.out 9).trans rfl
              have hcz27_10 : wc.cell? ⟨gb330, 10, none⟩ = some (.int .i64 a0_10) := (blk_cell BK330.out 10).trans rfl
              have hcz27_11 : wc.cell? ⟨gb330, 11, none⟩ = some (.bool a0_11) := (blk_cell BK330.out 11).trans rfl
              have hcz27_12 : wc.cell? ⟨gb330, 12, none⟩ = some (.int .i64 a0_12) := (blk_cell BK330.out 12).trans rfl
              have hfz27_0 := blk_frozen BK330.out 0
              have hfz27_1 := blk_frozen BK330.out 1
              have hfz27_2 := blk_frozen BK330.out 2
              have hfz27_3 := blk_frozen BK330.out 3
              have hfz27_4 := blk_frozen BK330.out 4
              have hfz27_5 := blk_frozen BK330.out 5
              have hfz27_6 := blk_frozen BK330.out 6
              have hfz27_7 := blk_frozen BK330.out 7
              have hfz27_8 := blk_frozen BK330.out 8
              have hfz27_9 := blk_frozen BK330.out 9
              have hfz27_10 := blk_frozen BK330.out 10
              have hfz27_11 := blk_frozen BK330.out 11
              have hfz27_12 := blk_frozen BK330.out 12
              go_wp2_with (first | ((with_reducible refine gate_callee (f := 17) rfl ?_); refine goesL_ (some 13) rfl rfl Tryz.func17 (by kernel_rfl) rfl #[.int .i64 a0_0] rfl (by (try simp only [List.map_toArray, List.map_cons, List.map_nil]); first | done | rfl | (simp only [List.length_drop, List.length_take]; rfl)) ?_; (with_reducible refine (horariumref44_when.calls a0_0 true _ A8.out).mono ?_); rintro e w' ⟨rfl, ⟨nd, rfl⟩⟩; refine ⟨_, rfl, ?_⟩) | (go_at_call 18; (with_reducible refine (horariumref44_number.calls a0_0 false _ A10.out).mono ?_); rintro e w' ⟨rfl, ⟨nd, rfl⟩⟩))
              go_ret
              exact ⟨by first | rfl | (simp [errW_none, errW_some] <;> rfl) | (simp [*, errW_none, errW_some] <;> rfl), by repeat (first | (with_reducible first | exact HB.out | apply below_alloc | apply pw_below_drewN | apply below_drew1 | refine below_set ?_ GE330.out) | exact HB.out)⟩
        · replace c9 := Bool.eq_false_iff.mpr c9
          subst c9
          have H1 : (if (!(a0_3 == 0) || (!(a0_4 == 0) || (!(a0_5 == 0) || (!(a0_6 == 0))))) = true then (some false) else ((horariumref44_number.f a0_0).bind fun t335 => (if t335 = true then (if a0_0 = 8 then (if a0_1 = 0 then (some true) else (some false)) else ((horariumref44_bare.f a0_7 l0_8 a0_9 a0_10 a0_11 a0_12).bind fun t336 => (some t336))) else (if a0_2 = 0 then (if a0_0 = 8 then (if a0_1 = 0 then (some true) else (some false)) else ((horariumref44_bare.f a0_7 l0_8 a0_9 a0_10 a0_11 a0_12).bind fun t337 => (some t337))) else (some false))))) = some r := by rw [if_neg (show ¬ (false = true) by decide)] at H; exact H
          clear H
          have H := H1
          clear H1
          by_cases c28 : (!(a0_3 == 0) || (!(a0_4 == 0) || (!(a0_5 == 0) || (!(a0_6 == 0))))) = true
          · rw [if_pos c28] at H
            have c28b0 : (!(a0_3 == 0) || (!(a0_4 == 0) || (!(a0_5 == 0) || (!(a0_6 == 0))))) = true := c28
            clear c28
            obtain rfl := Option.some.inj H
            have hcz29_0 : wc.cell? ⟨gb330, 0, none⟩ = some (.int .i64 a0_0) := (blk_cell BK330.out 0).trans rfl
            have hcz29_1 : wc.cell? ⟨gb330, 1, none⟩ = some (.int .i64 a0_1) := (blk_cell BK330.out 1).trans rfl
            have hcz29_2 : wc.cell? ⟨gb330, 2, none⟩ = some (.int .i64 a0_2) := (blk_cell BK330.out 2).trans rfl
            have hcz29_3 : wc.cell? ⟨gb330, 3, none⟩ = some (.int .u32 a0_3) := (blk_cell BK330.out 3).trans rfl
            have hcz29_4 : wc.cell? ⟨gb330, 4, none⟩ = some (.int .u8 a0_4) := (blk_cell BK330.out 4).trans rfl
            have hcz29_5 : wc.cell? ⟨gb330, 5, none⟩ = some (.int .i64 a0_5) := (blk_cell BK330.out 5).trans rfl
            have hcz29_6 : wc.cell? ⟨gb330, 6, none⟩ = some (.int .i64 a0_6) := (blk_cell BK330.out 6).trans rfl
            have hcz29_7 : wc.cell? ⟨gb330, 7, none⟩ = some (.int .i64 a0_7) := (blk_cell BK330.out 7).trans rfl
            have hcz29_8 : wc.cell? ⟨gb330, 8, none⟩ = some (.slice A0_8 l0_8.length c0_8) := (blk_cell BK330.out 8).trans rfl
            have hcz29_9 : wc.cell? ⟨gb330, 9, none⟩ = some (.int .i64 a0_9) := (blk_cell BK330.out 9).trans rfl
            have hcz29_10 : wc.cell? ⟨gb330, 10, none⟩ = some (.int .i64 a0_10) := (blk_cell BK330.out 10).trans rfl
            have hcz29_11 : wc.cell? ⟨gb330, 11, none⟩ = some (.bool a0_11) := (blk_cell BK330.out 11).trans rfl
            have hcz29_12 : wc.cell? ⟨gb330, 12, none⟩ = some (.int .i64 a0_12) := (blk_cell BK330.out 12).trans rfl
            have hfz29_0 := blk_frozen BK330.out 0
            have hfz29_1 := blk_frozen BK330.out 1
            have hfz29_2 := blk_frozen BK330.out 2
            have hfz29_3 := blk_frozen BK330.out 3
            have hfz29_4 := blk_frozen BK330.out 4
            have hfz29_5 := blk_frozen BK330.out 5
            have hfz29_6 := blk_frozen BK330.out 6
            have hfz29_7 := blk_frozen BK330.out 7
            have hfz29_8 := blk_frozen BK330.out 8
            have hfz29_9 := blk_frozen BK330.out 9
            have hfz29_10 := blk_frozen BK330.out 10
            have hfz29_11 := blk_frozen BK330.out 11
            have hfz29_12 := blk_frozen BK330.out 12
            go_wp2_with (first | ((with_reducible refine gate_callee (f := 17) rfl ?_); refine goesL_ (some 13) rfl rfl Tryz.func17 (by kernel_rfl) rfl #[.int .i64 a0_0] rfl (by (try simp only [List.map_toArray, List.map_cons, List.map_nil]); first | done | rfl | (simp only [List.length_drop, List.length_take]; rfl)) ?_; (with_reducible refine (horariumref44_when.calls a0_0 false _ A8.out).mono ?_); rintro e w' ⟨rfl, ⟨nd, rfl⟩⟩; refine ⟨_, rfl, ?_⟩))
            go_ret
            exact ⟨by first | rfl | (simp [errW_none, errW_some] <;> rfl) | (simp [*, errW_none, errW_some] <;> rfl), by repeat (first | (with_reducible first | exact HB.out | apply below_alloc | apply pw_below_drewN | apply below_drew1 | refine below_set ?_ GE330.out) | exact HB.out)⟩
          · rw [if_neg c28] at H
            have c28b0 : (!(a0_3 == 0) || (!(a0_4 == 0) || (!(a0_5 == 0) || (!(a0_6 == 0))))) = false := by simpa using c28
            clear c28
            replace H := Option.bind_eq_some_iff.mp H
            obtain ⟨t335, A300, H⟩ := H
            replace H : (if t335 = true then (if a0_0 = 8 then (if a0_1 = 0 then (some true) else (some false)) else ((horariumref44_bare.f a0_7 l0_8 a0_9 a0_10 a0_11 a0_12).bind fun t336 => (some t336))) else (if a0_2 = 0 then (if a0_0 = 8 then (if a0_1 = 0 then (some true) else (some false)) else ((horariumref44_bare.f a0_7 l0_8 a0_9 a0_10 a0_11 a0_12).bind fun t337 => (some t337))) else (some false))) = some r := H
            have A30 := Aside0.mk A300
            clear A300
            by_cases c31 : t335 = true
            · subst c31
              have H1 : (if a0_0 = 8 then (if a0_1 = 0 then (some true) else (some false)) else ((horariumref44_bare.f a0_7 l0_8 a0_9 a0_10 a0_11 a0_12).bind fun t336 => (some t336))) = some r := by rw [if_pos rfl] at H; exact H
              clear H
              have H := H1
              clear H1
              by_cases c32 : a0_0 = 8
              · rw [if_pos c32] at H
                have c32b0 : (a0_0 == 8) = true := beq_iff_eq.mpr c32
                have c32b1 : (a0_0 != 8) = false := bne_eq_false_iff_eq.mpr c32
                clear c32
                by_cases c33 : a0_1 = 0
                · rw [if_pos c33] at H
                  have c33b0 : (a0_1 == 0) = true := beq_iff_eq.mpr c33
                  have c33b1 : (a0_1 != 0) = false := bne_eq_false_iff_eq.mpr c33
                  clear c33
                  obtain rfl := Option.some.inj H
                  have hcz34_0 : wc.cell? ⟨gb330, 0, none⟩ = some (.int .i64 a0_0) := (blk_cell BK330.out 0).trans rfl
                  have hcz34_1 : wc.cell? ⟨gb330, 1, none⟩ = some (.int .i64 a0_1) := (blk_cell BK330.out 1).trans rfl
                  have hcz34_2 : wc.cell? ⟨gb330, 2, none⟩ = some (.int .i64 a0_2) := (blk_cell BK330.out 2).trans rfl
                  have hcz34_3 : wc.cell? ⟨gb330, 3, none⟩ = some (.int .u32 a0_3) := (blk_cell BK330.out 3).trans rfl
                  have hcz34_4 : wc.cell? ⟨gb330, 4, none⟩ = some (.int .u8 a0_4) := (blk_cell BK330.out 4).trans rfl
                  have hcz34_5 : wc.cell? ⟨gb330, 5, none⟩ = some (.int .i64 a0_5) := (blk_cell BK330.out 5).trans rfl
                  have hcz34_6 : wc.cell? ⟨gb330, 6, none⟩ = some (.int .i64 a0_6) := (blk_cell BK330.out 6).trans rfl
                  have hcz34_7 : wc.cell? ⟨gb330, 7, none⟩ = some (.int .i64 a0_7) := (blk_cell BK330.out 7).trans rfl
                  have hcz34_8 : wc.cell? ⟨gb330, 8, none⟩ = some (.slice A0_8 l0_8.length c0_8) := (blk_cell BK330.out 8).trans rfl
                  have hcz34_9 : wc.cell? ⟨gb330, 9, none⟩ = some (.int .i64 a0_9) := (blk_cell BK330.out 9).trans rfl
                  have hcz34_10 : wc.cell? ⟨gb330, 10, none⟩ = some (.int .i64 a0_10) := (blk_cell BK330.out 10).trans rfl
                  have hcz34_11 : wc.cell? ⟨gb330, 11, none⟩ = some (.bool a0_11) := (blk_cell BK330.out 11).trans rfl
                  have hcz34_12 : wc.cell? ⟨gb330, 12, none⟩ = some (.int .i64 a0_12) := (blk_cell BK330.out 12).trans rfl
                  have hfz34_0 := blk_frozen BK330.out 0
                  have hfz34_1 := blk_frozen BK330.out 1
                  have hfz34_2 := blk_frozen BK330.out 2
                  have hfz34_3 := blk_frozen BK330.out 3
                  have hfz34_4 := blk_frozen BK330.out 4
                  have hfz34_5 := blk_frozen BK330.out 5
                  have hfz34_6 := blk_frozen BK330.out 6
                  have hfz34_7 := blk_frozen BK330.out 7
                  have hfz34_8 := blk_frozen BK330.out 8
                  have hfz34_9 := blk_frozen BK330.out 9
                  have hfz34_10 := blk_frozen BK330.out 10
                  have hfz34_11 := blk_frozen BK330.out 11
                  have hfz34_12 := blk_frozen BK330.out 12
                  go_wp2_with (first | ((with_reducible refine gate_callee (f := 17) rfl ?_); refine goesL_ (some 13) rfl rfl Tryz.func17 (by kernel_rfl) rfl #[.int .i64 a0_0] rfl (by (try simp only [List.map_toArray, List.map_cons, List.map_nil]); first | done | rfl | (simp only [List.length_drop, List.length_take]; rfl)) ?_; (with_reducible refine (horariumref44_when.calls a0_0 false _ A8.out).mono ?_); rintro e w' ⟨rfl, ⟨nd, rfl⟩⟩; refine ⟨_, rfl, ?_⟩) | (go_at_call 18; (with_reducible refine (horariumref44_number.calls a0_0 true _ A30.out).mono ?_); rintro e w' ⟨rfl, ⟨nd, rfl⟩⟩))
                  go_ret
                  exact ⟨by first | rfl | (simp [errW_none, errW_some] <;> rfl) | (simp [*, errW_none, errW_some] <;> rfl), by repeat (first | (with_reducible first | exact HB.out | apply below_alloc | apply pw_below_drewN | apply below_drew1 | refine below_set ?_ GE330.out) | exact HB.out)⟩
                · rw [if_neg c33] at H
                  have c33b0 : (a0_1 == 0) = false := beq_eq_false_iff_ne.mpr c33
                  have c33b1 : (a0_1 != 0) = true := bne_iff_ne.mpr c33
                  obtain rfl := Option.some.inj H
                  have hcz35_0 : wc.cell? ⟨gb330, 0, none⟩ = some (.int .i64 a0_0) := (blk_cell BK330.out 0).trans rfl
                  have hcz35_1 : wc.cell? ⟨gb330, 1, none⟩ = some (.int .i64 a0_1) := (blk_cell BK330.out 1).trans rfl
                  have hcz35_2 : wc.cell? ⟨gb330, 2, none⟩ = some (.int .i64 a0_2) := (blk_cell BK330.out 2).trans rfl
                  have hcz35_3 : wc.cell? ⟨gb330, 3, none⟩ = some (.int .u32 a0_3) := (blk_cell BK330.out 3).trans rfl
                  have hcz35_4 : wc.cell? ⟨gb330, 4, none⟩ = some (.int .u8 a0_4) := (blk_cell BK330.out 4).trans rfl
                  have hcz35_5 : wc.cell? ⟨gb330, 5, none⟩ = some (.int .i64 a0_5) := (blk_cell BK330.out 5).trans rfl
                  have hcz35_6 : wc.cell? ⟨gb330, 6, none⟩ = some (.int .i64 a0_6) := (blk_cell BK330.out 6).trans rfl
                  have hcz35_7 : wc.cell? ⟨gb330, 7, none⟩ = some (.int .i64 a0_7) := (blk_cell BK330.out 7).trans rfl
                  have hcz35_8 : wc.cell? ⟨gb330, 8, none⟩ = some (.slice A0_8 l0_8.length c0_8) := (blk_cell BK330.out 8).trans rfl
                  have hcz35_9 : wc.cell? ⟨gb330, 9, none⟩ = some (.int .i64 a0_9) := (blk_cell BK330.out 9).trans rfl
                  have hcz35_10 : wc.cell? ⟨gb330, 10, none⟩ = some (.int .i64 a0_10) := (blk_cell BK330.out 10).trans rfl
                  have hcz35_11 : wc.cell? ⟨gb330, 11, none⟩ = some (.bool a0_11) := (blk_cell BK330.out 11).trans rfl
                  have hcz35_12 : wc.cell? ⟨gb330, 12, none⟩ = some (.int .i64 a0_12) := (blk_cell BK330.out 12).trans rfl
                  have hfz35_0 := blk_frozen BK330.out 0
                  have hfz35_1 := blk_frozen BK330.out 1
                  have hfz35_2 := blk_frozen BK330.out 2
                  have hfz35_3 := blk_frozen BK330.out 3
                  have hfz35_4 := blk_frozen BK330.out 4
                  have hfz35_5 := blk_frozen BK330.out 5
                  have hfz35_6 := blk_frozen BK330.out 6
                  have hfz35_7 := blk_frozen BK330.out 7
                  have hfz35_8 := blk_frozen BK330.out 8
                  have hfz35_9 := blk_frozen BK330.out 9
                  have hfz35_10 := blk_frozen BK330.out 10
                  have hfz35_11 := blk_frozen BK330.out 11
                  have hfz35_12 := blk_frozen BK330.out 12
                  go_wp2_with (first | ((with_reducible refine gate_callee (f := 17) rfl ?_); refine goesL_ (some 13) rfl rfl Tryz.func17 (by kernel_rfl) rfl #[.int .i64 a0_0] rfl (by (try simp only [List.map_toArray, List.map_cons, List.map_nil]); first | done | rfl | (simp only [List.length_drop, List.length_take]; rfl)) ?_; (with_reducible refine (horariumref44_when.calls a0_0 false _ A8.out).mono ?_); rintro e w' ⟨rfl, ⟨nd, rfl⟩⟩; refine ⟨_, rfl, ?_⟩) | (go_at_call 18; (with_reducible refine (horariumref44_number.calls a0_0 true _ A30.out).mono ?_); rintro e w' ⟨rfl, ⟨nd, rfl⟩⟩))
                  go_ret
                  exact ⟨by first | rfl | (simp [errW_none, errW_some] <;> rfl) | (simp [*, errW_none, errW_some] <;> rfl), by repeat (first | (with_reducible first | exact HB.out | apply below_alloc | apply pw_below_drewN | apply below_drew1 | refine below_set ?_ GE330.out) | exact HB.out)⟩
              · rw [if_neg c32] at H
                have c32b0 : (a0_0 == 8) = false := beq_eq_false_iff_ne.mpr c32
                have c32b1 : (a0_0 != 8) = true := bne_iff_ne.mpr c32
                replace H := Option.bind_eq_some_iff.mp H
                obtain ⟨t336, A360, H⟩ := H
                replace H : (some t336) = some r := H
                have A36 := Aside0.mk A360
                clear A360
                obtain rfl := Option.some.inj H
                have hcz37_0 : wc.cell? ⟨gb330, 0, none⟩ = some (.int .i64 a0_0) := (blk_cell BK330.out 0).trans rfl
                have hcz37_1 : wc.cell? ⟨gb330, 1, none⟩ = some (.int .i64 a0_1) := (blk_cell BK330.out 1).trans rfl
                have hcz37_2 : wc.cell? ⟨gb330, 2, none⟩ = some (.int .i64 a0_2) := (blk_cell BK330.out 2).trans rfl
                have hcz37_3 : wc.cell? ⟨gb330, 3, none⟩ = some (.int .u32 a0_3) := (blk_cell BK330.out 3).trans rfl
                have hcz37_4 : wc.cell? ⟨gb330, 4, none⟩ = some (.int .u8 a0_4) := (blk_cell BK330.out 4).trans rfl
                have hcz37_5 : wc.cell? ⟨gb330, 5, none⟩ = some (.int .i64 a0_5) := (blk_cell BK330.out 5).trans rfl
                have hcz37_6 : wc.cell? ⟨gb330, 6, none⟩ = some (.int .i64 a0_6) := (blk_cell BK330.out 6).trans rfl
                have hcz37_7 : wc.cell? ⟨gb330, 7, none⟩ = some (.int .i64 a0_7) := (blk_cell BK330.out 7).trans rfl
                have hcz37_8 : wc.cell? ⟨gb330, 8, none⟩ = some (.slice A0_8 l0_8.length c0_8) := (blk_cell BK330.out 8).trans rfl
                have hcz37_9 : wc.cell? ⟨gb330, 9, none⟩ = some (.int .i64 a0_9) := (blk_cell BK330.out 9).trans rfl
                have hcz37_10 : wc.cell? ⟨gb330, 10, none⟩ = some (.int .i64 a0_10) := (blk_cell BK330.out 10).trans rfl
                have hcz37_11 : wc.cell? ⟨gb330, 11, none⟩ = some (.bool a0_11) := (blk_cell BK330.out 11).trans rfl
                have hcz37_12 : wc.cell? ⟨gb330, 12, none⟩ = some (.int .i64 a0_12) := (blk_cell BK330.out 12).trans rfl
                have hfz37_0 := blk_frozen BK330.out 0
                have hfz37_1 := blk_frozen BK330.out 1
                have hfz37_2 := blk_frozen BK330.out 2
                have hfz37_3 := blk_frozen BK330.out 3
                have hfz37_4 := blk_frozen BK330.out 4
                have hfz37_5 := blk_frozen BK330.out 5
                have hfz37_6 := blk_frozen BK330.out 6
                have hfz37_7 := blk_frozen BK330.out 7
                have hfz37_8 := blk_frozen BK330.out 8
                have hfz37_9 := blk_frozen BK330.out 9
                have hfz37_10 := blk_frozen BK330.out 10
                have hfz37_11 := blk_frozen BK330.out 11
                have hfz37_12 := blk_frozen BK330.out 12
                go_wp2_with (first | ((with_reducible refine gate_callee (f := 17) rfl ?_); refine goesL_ (some 13) rfl rfl Tryz.func17 (by kernel_rfl) rfl #[.int .i64 a0_0] rfl (by (try simp only [List.map_toArray, List.map_cons, List.map_nil]); first | done | rfl | (simp only [List.length_drop, List.length_take]; rfl)) ?_; (with_reducible refine (horariumref44_when.calls a0_0 false _ A8.out).mono ?_); rintro e w' ⟨rfl, ⟨nd, rfl⟩⟩; refine ⟨_, rfl, ?_⟩) | (go_at_call 18; (with_reducible refine (horariumref44_number.calls a0_0 true _ A30.out).mono ?_); rintro e w' ⟨rfl, ⟨nd, rfl⟩⟩) | (go_at_call 19; (with_reducible refine (horariumref44_bare.calls a0_7 _ _ l0_8 a0_9 a0_10 a0_11 a0_12 t336 _ ?side1 ?side2 A36.out).mono ?_); (case side1 => repeat (first | exact (Kd.C_below HR0_8.out (by repeat (first | (with_reducible first | exact HB.out | apply below_alloc | apply pw_below_drewN | apply below_drew1 | refine below_set ?_ GE330.out) | exact HB.out))) | (with_reducible refine Kd.C_alloc ?_ _) | (with_reducible refine Kd.C_drewN ?_ _) | (with_reducible refine Kd.C_drew ?_))); (case side2 => exact HC0_8.out); rintro e w38 ⟨rfl, hb⟩; have n0_ := Aside0.mk (blk_below (g := gb330) (o := .cells #[.int .i64 a0_0, .int .i64 a0_1, .int .i64 a0_2, .int .u32 a0_3, .int .u8 a0_4, .int .i64 a0_5, .int .i64 a0_6, .int .i64 a0_7, .slice A0_8 l0_8.length c0_8, .int .i64 a0_9, .int .i64 a0_10, .bool a0_11, .int .i64 a0_12] 31 (0, 0)) (by (with_reducible repeat (first | refine blk_drewN ?_ _ | refine blk_drew ?_ | refine blk_alloc ?_ _)); exact BK330.out) hb); have n1_ := Aside0.mk (below_step (by repeat (first | (with_reducible first | exact HB.out | apply below_alloc | apply pw_below_drewN | apply below_drew1 | refine below_set ?_ GE330.out) | exact HB.out)) hb); clear BK330; clear HB; have BK330 := n0_; have HB := n1_; clear n0_ n1_; (try clear hb); (try clear hb2); (try clear hk); (try clear hi)))
                go_ret
                exact ⟨by first | rfl | (simp [errW_none, errW_some] <;> rfl) | (simp [*, errW_none, errW_some] <;> rfl), by repeat (first | (with_reducible first | exact HB.out | apply below_alloc | apply pw_below_drewN | apply below_drew1 | refine below_set ?_ GE330.out) | exact HB.out)⟩
            · replace c31 := Bool.eq_false_iff.mpr c31
              subst c31
              have H1 : (if a0_2 = 0 then (if a0_0 = 8 then (if a0_1 = 0 then (some true) else (some false)) else ((horariumref44_bare.f a0_7 l0_8 a0_9 a0_10 a0_11 a0_12).bind fun t337 => (some t337))) else (some false)) = some r := by rw [if_neg (show ¬ (false = true) by decide)] at H; exact H
              clear H
              have H := H1
              clear H1
              by_cases c39 : a0_2 = 0
              · rw [if_pos c39] at H
                have c39b0 : (a0_2 == 0) = true := beq_iff_eq.mpr c39
                have c39b1 : (a0_2 != 0) = false := bne_eq_false_iff_eq.mpr c39
                clear c39
                by_cases c40 : a0_0 = 8
                · rw [if_pos c40] at H
                  have c40b0 : (a0_0 == 8) = true := beq_iff_eq.mpr c40
                  have c40b1 : (a0_0 != 8) = false := bne_eq_false_iff_eq.mpr c40
                  clear c40
                  by_cases c41 : a0_1 = 0
                  · rw [if_pos c41] at H
                    have c41b0 : (a0_1 == 0) = true := beq_iff_eq.mpr c41
                    have c41b1 : (a0_1 != 0) = false := bne_eq_false_iff_eq.mpr c41
                    clear c41
                    obtain rfl := Option.some.inj H
                    have hcz42_0 : wc.cell? ⟨gb330, 0, none⟩ = some (.int .i64 a0_0) := (blk_cell BK330.out 0).trans rfl
                    have hcz42_1 : wc.cell? ⟨gb330, 1, none⟩ = some (.int .i64 a0_1) := (blk_cell BK330.out 1).trans rfl
                    have hcz42_2 : wc.cell? ⟨gb330, 2, none⟩ = some (.int .i64 a0_2) := (blk_cell BK330.out 2).trans rfl
                    have hcz42_3 : wc.cell? ⟨gb330, 3, none⟩ = some (.int .u32 a0_3) := (blk_cell BK330.out 3).trans rfl
                    have hcz42_4 : wc.cell? ⟨gb330, 4, none⟩ = some (.int .u8 a0_4) := (blk_cell BK330.out 4).trans rfl
                    have hcz42_5 : wc.cell? ⟨gb330, 5, none⟩ = some (.int .i64 a0_5) := (blk_cell BK330.out 5).trans rfl
                    have hcz42_6 : wc.cell? ⟨gb330, 6, none⟩ = some (.int .i64 a0_6) := (blk_cell BK330.out 6).trans rfl
                    have hcz42_7 : wc.cell? ⟨gb330, 7, none⟩ = some (.int .i64 a0_7) := (blk_cell BK330.out 7).trans rfl
                    have hcz42_8 : wc.cell? ⟨gb330, 8, none⟩ = some (.slice A0_8 l0_8.length c0_8) := (blk_cell BK330.out 8).trans rfl
                    have hcz42_9 : wc.cell? ⟨gb330, 9, none⟩ = some (.int .i64 a0_9) := (blk_cell BK330.out 9).trans rfl
                    have hcz42_10 : wc.cell? ⟨gb330, 10, none⟩ = some (.int .i64 a0_10) := (blk_cell BK330.out 10).trans rfl
                    have hcz42_11 : wc.cell? ⟨gb330, 11, none⟩ = some (.bool a0_11) := (blk_cell BK330.out 11).trans rfl
                    have hcz42_12 : wc.cell? ⟨gb330, 12, none⟩ = some (.int .i64 a0_12) := (blk_cell BK330.out 12).trans rfl
                    have hfz42_0 := blk_frozen BK330.out 0
                    have hfz42_1 := blk_frozen BK330.out 1
                    have hfz42_2 := blk_frozen BK330.out 2
                    have hfz42_3 := blk_frozen BK330.out 3
                    have hfz42_4 := blk_frozen BK330.out 4
                    have hfz42_5 := blk_frozen BK330.out 5
                    have hfz42_6 := blk_frozen BK330.out 6
                    have hfz42_7 := blk_frozen BK330.out 7
                    have hfz42_8 := blk_frozen BK330.out 8
                    have hfz42_9 := blk_frozen BK330.out 9
                    have hfz42_10 := blk_frozen BK330.out 10
                    have hfz42_11 := blk_frozen BK330.out 11
                    have hfz42_12 := blk_frozen BK330.out 12
                    go_wp2_with (first | ((with_reducible refine gate_callee (f := 17) rfl ?_); refine goesL_ (some 13) rfl rfl Tryz.func17 (by kernel_rfl) rfl #[.int .i64 a0_0] rfl (by (try simp only [List.map_toArray, List.map_cons, List.map_nil]); first | done | rfl | (simp only [List.length_drop, List.length_take]; rfl)) ?_; (with_reducible refine (horariumref44_when.calls a0_0 false _ A8.out).mono ?_); rintro e w' ⟨rfl, ⟨nd, rfl⟩⟩; refine ⟨_, rfl, ?_⟩) | (go_at_call 18; (with_reducible refine (horariumref44_number.calls a0_0 false _ A30.out).mono ?_); rintro e w' ⟨rfl, ⟨nd, rfl⟩⟩))
                    go_ret
                    exact ⟨by first | rfl | (simp [errW_none, errW_some] <;> rfl) | (simp [*, errW_none, errW_some] <;> rfl), by repeat (first | (with_reducible first | exact HB.out | apply below_alloc | apply pw_below_drewN | apply below_drew1 | refine below_set ?_ GE330.out) | exact HB.out)⟩
                  · rw [if_neg c41] at H
                    have c41b0 : (a0_1 == 0) = false := beq_eq_false_iff_ne.mpr c41
                    have c41b1 : (a0_1 != 0) = true := bne_iff_ne.mpr c41
                    obtain rfl := Option.some.inj H
                    have hcz43_0 : wc.cell? ⟨gb330, 0, none⟩ = some (.int .i64 a0_0) := (blk_cell BK330.out 0).trans rfl
                    have hcz43_1 : wc.cell? ⟨gb330, 1, none⟩ = some (.int .i64 a0_1) := (blk_cell BK330.out 1).trans rfl
                    have hcz43_2 : wc.cell? ⟨gb330, 2, none⟩ = some (.int .i64 a0_2) := (blk_cell BK330.out 2).trans rfl
                    have hcz43_3 : wc.cell? ⟨gb330, 3, none⟩ = some (.int .u32 a0_3) := (blk_cell BK330.out 3).trans rfl
                    have hcz43_4 : wc.cell? ⟨gb330, 4, none⟩ = some (.int .u8 a0_4) := (blk_cell BK330.out 4).trans rfl
                    have hcz43_5 : wc.cell? ⟨gb330, 5, none⟩ = some (.int .i64 a0_5) := (blk_cell BK330.out 5).trans rfl
                    have hcz43_6 : wc.cell? ⟨gb330, 6, none⟩ = some (.int .i64 a0_6) := (blk_cell BK330.out 6).trans rfl
                    have hcz43_7 : wc.cell? ⟨gb330, 7, none⟩ = some (.int .i64 a0_7) := (blk_cell BK330.out 7).trans rfl
                    have hcz43_8 : wc.cell? ⟨gb330, 8, none⟩ = some (.slice A0_8 l0_8.length c0_8) := (blk_cell BK330.out 8).trans rfl
                    have hcz43_9 : wc.cell? ⟨gb330, 9, none⟩ = some (.int .i64 a0_9) := (blk_cell BK330.out 9).trans rfl
                    have hcz43_10 : wc.cell? ⟨gb330, 10, none⟩ = some (.int .i64 a0_10) := (blk_cell BK330.out 10).trans rfl
                    have hcz43_11 : wc.cell? ⟨gb330, 11, none⟩ = some (.bool a0_11) := (blk_cell BK330.out 11).trans rfl
                    have hcz43_12 : wc.cell? ⟨gb330, 12, none⟩ = some (.int .i64 a0_12) := (blk_cell BK330.out 12).trans rfl
                    have hfz43_0 := blk_frozen BK330.out 0
                    have hfz43_1 := blk_frozen BK330.out 1
                    have hfz43_2 := blk_frozen BK330.out 2
                    have hfz43_3 := blk_frozen BK330.out 3
                    have hfz43_4 := blk_frozen BK330.out 4
                    have hfz43_5 := blk_frozen BK330.out 5
                    have hfz43_6 := blk_frozen BK330.out 6
                    have hfz43_7 := blk_frozen BK330.out 7
                    have hfz43_8 := blk_frozen BK330.out 8
                    have hfz43_9 := blk_frozen BK330.out 9
                    have hfz43_10 := blk_frozen BK330.out 10
                    have hfz43_11 := blk_frozen BK330.out 11
                    have hfz43_12 := blk_frozen BK330.out 12
                    go_wp2_with (first | ((with_reducible refine gate_callee (f := 17) rfl ?_); refine goesL_ (some 13) rfl rfl Tryz.func17 (by kernel_rfl) rfl #[.int .i64 a0_0] rfl (by (try simp only [List.map_toArray, List.map_cons, List.map_nil]); first | done | rfl | (simp only [List.length_drop, List.length_take]; rfl)) ?_; (with_reducible refine (horariumref44_when.calls a0_0 false _ A8.out).mono ?_); rintro e w' ⟨rfl, ⟨nd, rfl⟩⟩; refine ⟨_, rfl, ?_⟩) | (go_at_call 18; (with_reducible refine (horariumref44_number.calls a0_0 false _ A30.out).mono ?_); rintro e w' ⟨rfl, ⟨nd, rfl⟩⟩))
                    go_ret
                    exact ⟨by first | rfl | (simp [errW_none, errW_some] <;> rfl) | (simp [*, errW_none, errW_some] <;> rfl), by repeat (first | (with_reducible first | exact HB.out | apply below_alloc | apply pw_below_drewN | apply below_drew1 | refine below_set ?_ GE330.out) | exact HB.out)⟩
                · rw [if_neg c40] at H
                  have c40b0 : (a0_0 == 8) = false := beq_eq_false_iff_ne.mpr c40
                  have c40b1 : (a0_0 != 8) = true := bne_iff_ne.mpr c40
                  replace H := Option.bind_eq_some_iff.mp H
                  obtain ⟨t337, A440, H⟩ := H
                  replace H : (some t337) = some r := H
                  have A44 := Aside0.mk A440
                  clear A440
                  obtain rfl := Option.some.inj H
                  have hcz45_0 : wc.cell? ⟨gb330, 0, none⟩ = some (.int .i64 a0_0) := (blk_cell BK330.out 0).trans rfl
                  have hcz45_1 : wc.cell? ⟨gb330, 1, none⟩ = some (.int .i64 a0_1) := (blk_cell BK330.out 1).trans rfl
                  have hcz45_2 : wc.cell? ⟨gb330, 2, none⟩ = some (.int .i64 a0_2) := (blk_cell BK330.out 2).trans rfl
                  have hcz45_3 : wc.cell? ⟨gb330, 3, none⟩ = some (.int .u32 a0_3) := (blk_cell BK330.out 3).trans rfl
                  have hcz45_4 : wc.cell? ⟨gb330, 4, none⟩ = some (.int .u8 a0_4) := (blk_cell BK330.out 4).trans rfl
                  have hcz45_5 : wc.cell? ⟨gb330, 5, none⟩ = some (.int .i64 a0_5) := (blk_cell BK330.out 5).trans rfl
                  have hcz45_6 : wc.cell? ⟨gb330, 6, none⟩ = some (.int .i64 a0_6) := (blk_cell BK330.out 6).trans rfl
                  have hcz45_7 : wc.cell? ⟨gb330, 7, none⟩ = some (.int .i64 a0_7) := (blk_cell BK330.out 7).trans rfl
                  have hcz45_8 : wc.cell? ⟨gb330, 8, none⟩ = some (.slice A0_8 l0_8.length c0_8) := (blk_cell BK330.out 8).trans rfl
                  have hcz45_9 : wc.cell? ⟨gb330, 9, none⟩ = some (.int .i64 a0_9) := (blk_cell BK330.out 9).trans rfl
                  have hcz45_10 : wc.cell? ⟨gb330, 10, none⟩ = some (.int .i64 a0_10) := (blk_cell BK330.out 10).trans rfl
                  have hcz45_11 : wc.cell? ⟨gb330, 11, none⟩ = some (.bool a0_11) := (blk_cell BK330.out 11).trans rfl
                  have hcz45_12 : wc.cell? ⟨gb330, 12, none⟩ = some (.int .i64 a0_12) := (blk_cell BK330.out 12).trans rfl
                  have hfz45_0 := blk_frozen BK330.out 0
                  have hfz45_1 := blk_frozen BK330.out 1
                  have hfz45_2 := blk_frozen BK330.out 2
                  have hfz45_3 := blk_frozen BK330.out 3
                  have hfz45_4 := blk_frozen BK330.out 4
                  have hfz45_5 := blk_frozen BK330.out 5
                  have hfz45_6 := blk_frozen BK330.out 6
                  have hfz45_7 := blk_frozen BK330.out 7
                  have hfz45_8 := blk_frozen BK330.out 8
                  have hfz45_9 := blk_frozen BK330.out 9
                  have hfz45_10 := blk_frozen BK330.out 10
                  have hfz45_11 := blk_frozen BK330.out 11
                  have hfz45_12 := blk_frozen BK330.out 12
                  go_wp2_with (first | ((with_reducible refine gate_callee (f := 17) rfl ?_); refine goesL_ (some 13) rfl rfl Tryz.func17 (by kernel_rfl) rfl #[.int .i64 a0_0] rfl (by (try simp only [List.map_toArray, List.map_cons, List.map_nil]); first | done | rfl | (simp only [List.length_drop, List.length_take]; rfl)) ?_; (with_reducible refine (horariumref44_when.calls a0_0 false _ A8.out).mono ?_); rintro e w' ⟨rfl, ⟨nd, rfl⟩⟩; refine ⟨_, rfl, ?_⟩) | (go_at_call 18; (with_reducible refine (horariumref44_number.calls a0_0 false _ A30.out).mono ?_); rintro e w' ⟨rfl, ⟨nd, rfl⟩⟩) | (go_at_call 19; (with_reducible refine (horariumref44_bare.calls a0_7 _ _ l0_8 a0_9 a0_10 a0_11 a0_12 t337 _ ?side1 ?side2 A44.out).mono ?_); (case side1 => repeat (first | exact (Kd.C_below HR0_8.out (by repeat (first | (with_reducible first | exact HB.out | apply below_alloc | apply pw_below_drewN | apply below_drew1 | refine below_set ?_ GE330.out) | exact HB.out))) | (with_reducible refine Kd.C_alloc ?_ _) | (with_reducible refine Kd.C_drewN ?_ _) | (with_reducible refine Kd.C_drew ?_))); (case side2 => exact HC0_8.out); rintro e w46 ⟨rfl, hb⟩; have n0_ := Aside0.mk (blk_below (g := gb330) (o := .cells #[.int .i64 a0_0, .int .i64 a0_1, .int .i64 a0_2, .int .u32 a0_3, .int .u8 a0_4, .int .i64 a0_5, .int .i64 a0_6, .int .i64 a0_7, .slice A0_8 l0_8.length c0_8, .int .i64 a0_9, .int .i64 a0_10, .bool a0_11, .int .i64 a0_12] 31 (0, 0)) (by (with_reducible repeat (first | refine blk_drewN ?_ _ | refine blk_drew ?_ | refine blk_alloc ?_ _)); exact BK330.out) hb); have n1_ := Aside0.mk (below_step (by repeat (first | (with_reducible first | exact HB.out | apply below_alloc | apply pw_below_drewN | apply below_drew1 | refine below_set ?_ GE330.out) | exact HB.out)) hb); clear BK330; clear HB; have BK330 := n0_; have HB := n1_; clear n0_ n1_; (try clear hb); (try clear hb2); (try clear hk); (try clear hi)))
                  go_ret
                  exact ⟨by first | rfl | (simp [errW_none, errW_some] <;> rfl) | (simp [*, errW_none, errW_some] <;> rfl), by repeat (first | (with_reducible first | exact HB.out | apply below_alloc | apply pw_below_drewN | apply below_drew1 | refine below_set ?_ GE330.out) | exact HB.out)⟩
              · rw [if_neg c39] at H
                have c39b0 : (a0_2 == 0) = false := beq_eq_false_iff_ne.mpr c39
                have c39b1 : (a0_2 != 0) = true := bne_iff_ne.mpr c39
                obtain rfl := Option.some.inj H
                have hcz47_0 : wc.cell? ⟨gb330, 0, none⟩ = some (.int .i64 a0_0) := (blk_cell BK330.out 0).trans rfl
                have hcz47_1 : wc.cell? ⟨gb330, 1, none⟩ = some (.int .i64 a0_1) := (blk_cell BK330.out 1).trans rfl
                have hcz47_2 : wc.cell? ⟨gb330, 2, none⟩ = some (.int .i64 a0_2) := (blk_cell BK330.out 2).trans rfl
                have hcz47_3 : wc.cell? ⟨gb330, 3, none⟩ = some (.int .u32 a0_3) := (blk_cell BK330.out 3).trans rfl
                have hcz47_4 : wc.cell? ⟨gb330, 4, none⟩ = some (.int .u8 a0_4) := (blk_cell BK330.out 4).trans rfl
                have hcz47_5 : wc.cell? ⟨gb330, 5, none⟩ = some (.int .i64 a0_5) := (blk_cell BK330.out 5).trans rfl
                have hcz47_6 : wc.cell? ⟨gb330, 6, none⟩ = some (.int .i64 a0_6) := (blk_cell BK330.out 6).trans rfl
                have hcz47_7 : wc.cell? ⟨gb330, 7, none⟩ = some (.int .i64 a0_7) := (blk_cell BK330.out 7).trans rfl
                have hcz47_8 : wc.cell? ⟨gb330, 8, none⟩ = some (.slice A0_8 l0_8.length c0_8) := (blk_cell BK330.out 8).trans rfl
                have hcz47_9 : wc.cell? ⟨gb330, 9, none⟩ = some (.int .i64 a0_9) := (blk_cell BK330.out 9).trans rfl
                have hcz47_10 : wc.cell? ⟨gb330, 10, none⟩ = some (.int .i64 a0_10) := (blk_cell BK330.out 10).trans rfl
                have hcz47_11 : wc.cell? ⟨gb330, 11, none⟩ = some (.bool a0_11) := (blk_cell BK330.out 11).trans rfl
                have hcz47_12 : wc.cell? ⟨gb330, 12, none⟩ = some (.int .i64 a0_12) := (blk_cell BK330.out 12).trans rfl
                have hfz47_0 := blk_frozen BK330.out 0
                have hfz47_1 := blk_frozen BK330.out 1
                have hfz47_2 := blk_frozen BK330.out 2
                have hfz47_3 := blk_frozen BK330.out 3
                have hfz47_4 := blk_frozen BK330.out 4
                have hfz47_5 := blk_frozen BK330.out 5
                have hfz47_6 := blk_frozen BK330.out 6
                have hfz47_7 := blk_frozen BK330.out 7
                have hfz47_8 := blk_frozen BK330.out 8
                have hfz47_9 := blk_frozen BK330.out 9
                have hfz47_10 := blk_frozen BK330.out 10
                have hfz47_11 := blk_frozen BK330.out 11
                have hfz47_12 := blk_frozen BK330.out 12
                go_wp2_with (first | ((with_reducible refine gate_callee (f := 17) rfl ?_); refine goesL_ (some 13) rfl rfl Tryz.func17 (by kernel_rfl) rfl #[.int .i64 a0_0] rfl (by (try simp only [List.map_toArray, List.map_cons, List.map_nil]); first | done | rfl | (simp only [List.length_drop, List.length_take]; rfl)) ?_; (with_reducible refine (horariumref44_when.calls a0_0 false _ A8.out).mono ?_); rintro e w' ⟨rfl, ⟨nd, rfl⟩⟩; refine ⟨_, rfl, ?_⟩) | (go_at_call 18; (with_reducible refine (horariumref44_number.calls a0_0 false _ A30.out).mono ?_); rintro e w' ⟨rfl, ⟨nd, rfl⟩⟩))
                go_ret
                exact ⟨by first | rfl | (simp [errW_none, errW_some] <;> rfl) | (simp [*, errW_none, errW_some] <;> rfl), by repeat (first | (with_reducible first | exact HB.out | apply below_alloc | apply pw_below_drewN | apply below_drew1 | refine below_set ?_ GE330.out) | exact HB.out)⟩
end Go.Proofs.YtklgecdklngekaaGreatDoor.Q
