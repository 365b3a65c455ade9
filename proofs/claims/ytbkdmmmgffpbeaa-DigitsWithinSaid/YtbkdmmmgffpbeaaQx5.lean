/- Laid by this session's own program (wip/drive.py) out of the translation: functions of the Go code as plain Lean functions, proofs that the code comes to them, a law's row (for every input it returns true, and its arguments read as before); no condition. Lean checks it. -/
import Derived.Test.YtbkdmmmgffpbeaaQx0
import Derived.Test.YtbkdmmmgffpbeaaQx1
import Derived.Test.YtbkdmmmgffpbeaaQx2
import Derived.Test.YtbkdmmmgffpbeaaQx3
import Derived.Test.YtbkdmmmgffpbeaaQx4
namespace Go.Proofs.Ytbkdmmmgffpbeaa.Q
open Go.RowKit Go.Proofs.YtbkdmmmgffpbeaaW.PrintWords Go.Proofs.YtbkdmmmgffpbeaaW.PrintLast Go.Proofs.YtbkdmmmgffpbeaaW.PrintMore
attribute [local go_sem] max2_int min2_int max_two min_two max_three min_three max_four min_four   -- for this text's walks alone
set_option linter.unusedVariables false
set_option linter.unusedSimpArgs false

/-! ### horariumlaw01_DigitsRing: function 7 -/
def horariumlaw01_DigitsRing.j0 : Nat → Int → Int → Int → Bool → Bool → Option (Bool)
  | 0, _, _, _, _, _ => none
  | k + 1, x0, x1, x5, x6, x74 => if x74 = true then (some false) else ((digits_Mul.f k x0 1).bind fun bt182 => ((digits_Add.f x0 0).bind fun bt184 => (if bt182.1 = x0 then (if bt182.2 = true then (if bt184.1 = x0 then (if bt184.2 = true then (if x6 = true then (if x1 > 0 then (if x5 > x0 then ((horariumlaw01_heads.f k).bind fun t186 => (some t186)) else (if x1 < 0 then (if x5 < x0 then ((horariumlaw01_heads.f k).bind fun t187 => (some t187)) else (if x1 = 0 then (if x5 = x0 then ((horariumlaw01_heads.f k).bind fun t188 => (some t188)) else (some false)) else (some false))) else (if x1 = 0 then (if x5 = x0 then ((horariumlaw01_heads.f k).bind fun t189 => (some t189)) else (some false)) else (some false)))) else (if x1 < 0 then (if x5 < x0 then ((horariumlaw01_heads.f k).bind fun t190 => (some t190)) else (if x1 = 0 then (if x5 = x0 then ((horariumlaw01_heads.f k).bind fun t191 => (some t191)) else (some false)) else (some false))) else (if x1 = 0 then (if x5 = x0 then ((horariumlaw01_heads.f k).bind fun t192 => (some t192)) else (some false)) else (some false)))) else ((horariumlaw01_heads.f k).bind fun t193 => (some t193))) else (some false)) else (some false)) else (some false)) else (some false))))
def horariumlaw01_DigitsRing.f (k : Nat) (a0 : Int) (a1 : Int) : Option (Bool) := (digits_Add.f a0 a1).bind fun bt174 => ((digits_Add.f a1 a0).bind fun bt176 => ((digits_Mul.f k a0 a1).bind fun bt178 => ((digits_Mul.f k a1 a0).bind fun bt180 => (if bt174.1 = bt176.1 then (if (bt174.2 != bt176.2) = true then (horariumlaw01_DigitsRing.j0 k a0 a1 bt174.1 bt174.2 true) else (if bt178.1 = bt180.1 then (if (bt178.2 != bt180.2) = true then (horariumlaw01_DigitsRing.j0 k a0 a1 bt174.1 bt174.2 true) else (if bt174.2 = true then (if bt178.2 = true then (horariumlaw01_DigitsRing.j0 k a0 a1 bt174.1 bt174.2 false) else (horariumlaw01_DigitsRing.j0 k a0 a1 bt174.1 bt174.2 (bt178.1 != 0))) else (if bt174.1 = 0 then (if bt178.2 = true then (horariumlaw01_DigitsRing.j0 k a0 a1 bt174.1 bt174.2 false) else (horariumlaw01_DigitsRing.j0 k a0 a1 bt174.1 bt174.2 (bt178.1 != 0))) else (horariumlaw01_DigitsRing.j0 k a0 a1 bt174.1 bt174.2 true)))) else (horariumlaw01_DigitsRing.j0 k a0 a1 bt174.1 bt174.2 true))) else (horariumlaw01_DigitsRing.j0 k a0 a1 bt174.1 bt174.2 true)))))
theorem horariumlaw01_DigitsRing.mono_l : ∀ k, (∀ y0 y1 y2 y3 y4, LeO (horariumlaw01_DigitsRing.j0 k y0 y1 y2 y3 y4) (horariumlaw01_DigitsRing.j0 (k + 1) y0 y1 y2 y3 y4))
  | 0 => fun _ _ _ _ _ r h => by simp [horariumlaw01_DigitsRing.j0] at h
  | k + 1 => by
    have ih0 := horariumlaw01_DigitsRing.mono_l k
    · intro y0 y1 y2 y3 y4
      unfold horariumlaw01_DigitsRing.j0
      repeat' first
      | (with_reducible exact ih0 _ _ _ _ _)
      | (with_reducible exact digits_Mul.mono _ _ _)
      | (with_reducible exact horariumlaw01_heads.mono _)
      | (with_reducible exact LeO.refl _)
      | (with_reducible exact LeO.none _)
      | (with_reducible refine LeO.ite ?_ ?_)
      | (with_reducible refine LeO.bind ?_ (fun _ => ?_))
      | exact ih0 _ _ _ _ _
      | exact digits_Mul.mono _ _ _
      | exact horariumlaw01_heads.mono _
      | exact LeO.none _
      | refine LeO.ite ?_ ?_
      | refine LeO.bind ?_ (fun _ => ?_)
theorem horariumlaw01_DigitsRing.mono : ∀ a0 a1 k, LeO (horariumlaw01_DigitsRing.f k a0 a1) (horariumlaw01_DigitsRing.f (k + 1) a0 a1) := by
  intro a0 a1 k
  have ih0 := horariumlaw01_DigitsRing.mono_l k
  unfold horariumlaw01_DigitsRing.f
  repeat' first
      | (with_reducible exact ih0 _ _ _ _ _)
      | (with_reducible exact digits_Mul.mono _ _ _)
      | (with_reducible exact horariumlaw01_heads.mono _)
      | (with_reducible exact LeO.refl _)
      | (with_reducible exact LeO.none _)
      | (with_reducible refine LeO.ite ?_ ?_)
      | (with_reducible refine LeO.bind ?_ (fun _ => ?_))
      | exact ih0 _ _ _ _ _
      | exact digits_Mul.mono _ _ _
      | exact horariumlaw01_heads.mono _
      | exact LeO.none _
      | refine LeO.ite ?_ ?_
      | refine LeO.bind ?_ (fun _ => ?_)
set_option maxHeartbeats 8000000 in
set_option maxRecDepth 100000 in
theorem horariumlaw01_DigitsRing.calls (k : Nat) (a0 : Int) (a1 : Int) (r : Bool) (w : World) (h : horariumlaw01_DigitsRing.f k a0 a1 = some r) :
    Calls Try.prog 7 #[.int .i64 a0, .int .i64 a1] w fun e w' => e = .returned (.bool r) ∧ Below w.heap.size w w' := by
  have HB := Aside0.mk (Below.refl w.heap.size w)
  have H : ((digits_Add.f a0 a1).bind fun bt174 => ((digits_Add.f a1 a0).bind fun bt176 => ((digits_Mul.f k a0 a1).bind fun bt178 => ((digits_Mul.f k a1 a0).bind fun bt180 => (if bt174.1 = bt176.1 then (if (bt174.2 != bt176.2) = true then (horariumlaw01_DigitsRing.j0 k a0 a1 bt174.1 bt174.2 true) else (if bt178.1 = bt180.1 then (if (bt178.2 != bt180.2) = true then (horariumlaw01_DigitsRing.j0 k a0 a1 bt174.1 bt174.2 true) else (if bt174.2 = true then (if bt178.2 = true then (horariumlaw01_DigitsRing.j0 k a0 a1 bt174.1 bt174.2 false) else (horariumlaw01_DigitsRing.j0 k a0 a1 bt174.1 bt174.2 (bt178.1 != 0))) else (if bt174.1 = 0 then (if bt178.2 = true then (horariumlaw01_DigitsRing.j0 k a0 a1 bt174.1 bt174.2 false) else (horariumlaw01_DigitsRing.j0 k a0 a1 bt174.1 bt174.2 (bt178.1 != 0))) else (horariumlaw01_DigitsRing.j0 k a0 a1 bt174.1 bt174.2 true)))) else (horariumlaw01_DigitsRing.j0 k a0 a1 bt174.1 bt174.2 true))) else (horariumlaw01_DigitsRing.j0 k a0 a1 bt174.1 bt174.2 true)))))) = some r := h
  clear h
  replace H := Option.bind_eq_some_iff.mp H
  obtain ⟨⟨t174, t175⟩, A30, H⟩ := H
  replace H : ((digits_Add.f a1 a0).bind fun bt176 => ((digits_Mul.f k a0 a1).bind fun bt178 => ((digits_Mul.f k a1 a0).bind fun bt180 => (if t174 = bt176.1 then (if (t175 != bt176.2) = true then (horariumlaw01_DigitsRing.j0 k a0 a1 t174 t175 true) else (if bt178.1 = bt180.1 then (if (bt178.2 != bt180.2) = true then (horariumlaw01_DigitsRing.j0 k a0 a1 t174 t175 true) else (if t175 = true then (if bt178.2 = true then (horariumlaw01_DigitsRing.j0 k a0 a1 t174 t175 false) else (horariumlaw01_DigitsRing.j0 k a0 a1 t174 t175 (bt178.1 != 0))) else (if t174 = 0 then (if bt178.2 = true then (horariumlaw01_DigitsRing.j0 k a0 a1 t174 t175 false) else (horariumlaw01_DigitsRing.j0 k a0 a1 t174 t175 (bt178.1 != 0))) else (horariumlaw01_DigitsRing.j0 k a0 a1 t174 t175 true)))) else (horariumlaw01_DigitsRing.j0 k a0 a1 t174 t175 true))) else (horariumlaw01_DigitsRing.j0 k a0 a1 t174 t175 true))))) = some r := H
  have A3 := Aside0.mk A30
  clear A30
  replace H := Option.bind_eq_some_iff.mp H
  obtain ⟨⟨t176, t177⟩, A40, H⟩ := H
  replace H : ((digits_Mul.f k a0 a1).bind fun bt178 => ((digits_Mul.f k a1 a0).bind fun bt180 => (if t174 = t176 then (if (t175 != t177) = true then (horariumlaw01_DigitsRing.j0 k a0 a1 t174 t175 true) else (if bt178.1 = bt180.1 then (if (bt178.2 != bt180.2) = true then (horariumlaw01_DigitsRing.j0 k a0 a1 t174 t175 true) else (if t175 = true then (if bt178.2 = true then (horariumlaw01_DigitsRing.j0 k a0 a1 t174 t175 false) else (horariumlaw01_DigitsRing.j0 k a0 a1 t174 t175 (bt178.1 != 0))) else (if t174 = 0 then (if bt178.2 = true then (horariumlaw01_DigitsRing.j0 k a0 a1 t174 t175 false) else (horariumlaw01_DigitsRing.j0 k a0 a1 t174 t175 (bt178.1 != 0))) else (horariumlaw01_DigitsRing.j0 k a0 a1 t174 t175 true)))) else (horariumlaw01_DigitsRing.j0 k a0 a1 t174 t175 true))) else (horariumlaw01_DigitsRing.j0 k a0 a1 t174 t175 true)))) = some r := H
  have A4 := Aside0.mk A40
  clear A40
  replace H := Option.bind_eq_some_iff.mp H
  obtain ⟨⟨t178, t179⟩, A50, H⟩ := H
  replace H : ((digits_Mul.f k a1 a0).bind fun bt180 => (if t174 = t176 then (if (t175 != t177) = true then (horariumlaw01_DigitsRing.j0 k a0 a1 t174 t175 true) else (if t178 = bt180.1 then (if (t179 != bt180.2) = true then (horariumlaw01_DigitsRing.j0 k a0 a1 t174 t175 true) else (if t175 = true then (if t179 = true then (horariumlaw01_DigitsRing.j0 k a0 a1 t174 t175 false) else (horariumlaw01_DigitsRing.j0 k a0 a1 t174 t175 (t178 != 0))) else (if t174 = 0 then (if t179 = true then (horariumlaw01_DigitsRing.j0 k a0 a1 t174 t175 false) else (horariumlaw01_DigitsRing.j0 k a0 a1 t174 t175 (t178 != 0))) else (horariumlaw01_DigitsRing.j0 k a0 a1 t174 t175 true)))) else (horariumlaw01_DigitsRing.j0 k a0 a1 t174 t175 true))) else (horariumlaw01_DigitsRing.j0 k a0 a1 t174 t175 true))) = some r := H
  have A5 := Aside0.mk A50
  clear A50
  replace H := Option.bind_eq_some_iff.mp H
  obtain ⟨⟨t180, t181⟩, A60, H⟩ := H
  replace H : (if t174 = t176 then (if (t175 != t177) = true then (horariumlaw01_DigitsRing.j0 k a0 a1 t174 t175 true) else (if t178 = t180 then (if (t179 != t181) = true then (horariumlaw01_DigitsRing.j0 k a0 a1 t174 t175 true) else (if t175 = true then (if t179 = true then (horariumlaw01_DigitsRing.j0 k a0 a1 t174 t175 false) else (horariumlaw01_DigitsRing.j0 k a0 a1 t174 t175 (t178 != 0))) else (if t174 = 0 then (if t179 = true then (horariumlaw01_DigitsRing.j0 k a0 a1 t174 t175 false) else (horariumlaw01_DigitsRing.j0 k a0 a1 t174 t175 (t178 != 0))) else (horariumlaw01_DigitsRing.j0 k a0 a1 t174 t175 true)))) else (horariumlaw01_DigitsRing.j0 k a0 a1 t174 t175 true))) else (horariumlaw01_DigitsRing.j0 k a0 a1 t174 t175 true)) = some r := H
  have A6 := Aside0.mk A60
  clear A60
  have HC7 := Aside0.mk H
  clear H
  go_enter Try.func7, Try.ntmps7
  go_upto_region 5 with (first | ((with_reducible refine gate_callee (f := 18) rfl ?_); refine goesL_ (some 20) rfl rfl Try.func18 (by kernel_rfl) rfl #[.int .i64 a0, .int .i64 a1] rfl (by (try simp only [List.map_toArray, List.map_cons, List.map_nil]); first | done | rfl | (simp only [List.length_drop, List.length_take]; rfl)) ?_; (with_reducible refine (digits_Add.calls a0 a1 t174 t175 _ A3.out).mono ?_); rintro e w' ⟨rfl, ⟨nd, rfl⟩⟩; refine ⟨_, rfl, ?_⟩) | ((with_reducible refine gate_callee (f := 18) rfl ?_); refine goesL_ (some 26) rfl rfl Try.func18 (by kernel_rfl) rfl #[.int .i64 a1, .int .i64 a0] rfl (by (try simp only [List.map_toArray, List.map_cons, List.map_nil]); first | done | rfl | (simp only [List.length_drop, List.length_take]; rfl)) ?_; (with_reducible refine (digits_Add.calls a1 a0 t176 t177 _ A4.out).mono ?_); rintro e w' ⟨rfl, ⟨nd, rfl⟩⟩; refine ⟨_, rfl, ?_⟩) | ((with_reducible refine gate_callee (f := 20) rfl ?_); refine goesL_ (some 32) rfl rfl Try.func20 (by kernel_rfl) rfl #[.int .i64 a0, .int .i64 a1] rfl (by (try simp only [List.map_toArray, List.map_cons, List.map_nil]); first | done | rfl | (simp only [List.length_drop, List.length_take]; rfl)) ?_; (with_reducible refine (digits_Mul.calls k a0 a1 t178 t179 _ A5.out).mono ?_); rintro e w' ⟨rfl, ⟨nd, rfl⟩⟩; refine ⟨_, rfl, ?_⟩) | ((with_reducible refine gate_callee (f := 20) rfl ?_); refine goesL_ (some 38) rfl rfl Try.func20 (by kernel_rfl) rfl #[.int .i64 a1, .int .i64 a0] rfl (by (try simp only [List.map_toArray, List.map_cons, List.map_nil]); first | done | rfl | (simp only [List.length_drop, List.length_take]; rfl)) ?_; (with_reducible refine (digits_Mul.calls k a1 a0 t180 t181 _ A6.out).mono ?_); rintro e w' ⟨rfl, ⟨nd, rfl⟩⟩; refine ⟨_, rfl, ?_⟩))
  (try simp only [Act.put, List.setIfInBounds_toArray, List.set_cons_zero, List.set_cons_succ])
  go_cut [74] (fun v74 wc => ∃ (kq : Nat) (x74_6 : Bool), v74 = .bool x74_6 ∧ Aside0 (horariumlaw01_DigitsRing.j0 kq a0 a1 t174 t175 x74_6 = some r) ∧ Aside0 (kq ≤ k) ∧ Aside0 (Below w.heap.size w wc))
  case first =>
    have H := HC7.out
    clear HC7
    by_cases c8 : t174 = t176
    · rw [if_pos c8] at H
      have c8b0 : (t174 == t176) = true := beq_iff_eq.mpr c8
      have c8b1 : (t174 != t176) = false := bne_eq_false_iff_eq.mpr c8
      clear c8
      (first | rw [c8b0] | (simp only [i64_w, i32_w]; rw [c8b0]) | skip)
      by_cases c9 : (t175 != t177) = true
      · rw [if_pos c9] at H
        have c9b0 : (t175 != t177) = true := c9
        (try (have c9b1 : decide (t175 = t177) = false := by simpa using c9))
        (try (have c9b2 : (t175 == t177) = false := by simpa using c9))
        (try (have c9b3 : ¬ (t175 = t177) := by simpa using c9))
        clear c9
        have H' := Aside0.mk H
        clear H
        go_wp2
        go_meet
        case rel => exact ⟨_, (true), (by first | rfl | (simp; done) | (simp [*]; done)), H', ⟨by first | omega | exact Nat.le_refl _⟩, ⟨by repeat (first | (with_reducible first | exact HB.out | apply below_alloc | apply pw_below_drewN | apply below_drew1) | exact HB.out)⟩⟩
      · rw [if_neg c9] at H
        have c9b0 : (t175 != t177) = false := by simpa using c9
        (try (have c9b1 : decide (t175 = t177) = true := by simpa using c9))
        (try (have c9b2 : (t175 == t177) = true := by simpa using c9))
        clear c9
        by_cases c10 : t178 = t180
        · rw [if_pos c10] at H
          have c10b0 : (t178 == t180) = true := beq_iff_eq.mpr c10
          have c10b1 : (t178 != t180) = false := bne_eq_false_iff_eq.mpr c10
          clear c10
          by_cases c11 : (t179 != t181) = true
          · rw [if_pos c11] at H
            have c11b0 : (t179 != t181) = true := c11
            (try (have c11b1 : decide (t179 = t181) = false := by simpa using c11))
            (try (have c11b2 : (t179 == t181) = false := by simpa using c11))
            (try (have c11b3 : ¬ (t179 = t181) := by simpa using c11))
            clear c11
            have H' := Aside0.mk H
            clear H
            go_wp2
            go_meet
            case rel => exact ⟨_, (true), (by first | rfl | (simp; done) | (simp [*]; done)), H', ⟨by first | omega | exact Nat.le_refl _⟩, ⟨by repeat (first | (with_reducible first | exact HB.out | apply below_alloc | apply pw_below_drewN | apply below_drew1) | exact HB.out)⟩⟩
          · rw [if_neg c11] at H
            have c11b0 : (t179 != t181) = false := by simpa using c11
            (try (have c11b1 : decide (t179 = t181) = true := by simpa using c11))
            (try (have c11b2 : (t179 == t181) = true := by simpa using c11))
            clear c11
            by_cases c12 : t175 = true
            · subst c12
              have H1 : (if t179 = true then (horariumlaw01_DigitsRing.j0 k a0 a1 t174 true false) else (horariumlaw01_DigitsRing.j0 k a0 a1 t174 true (t178 != 0))) = some r := by rw [if_pos rfl] at H; exact H
              clear H
              have H := H1
              clear H1
              by_cases c13 : t179 = true
              · subst c13
                have H1 : (horariumlaw01_DigitsRing.j0 k a0 a1 t174 true false) = some r := by rw [if_pos rfl] at H; exact H
                clear H
                have H := H1
                clear H1
                have H' := Aside0.mk H
                clear H
                go_wp2
                go_meet
                case rel => exact ⟨_, (false), (by first | rfl | (simp; done) | (simp [*]; done)), H', ⟨by first | omega | exact Nat.le_refl _⟩, ⟨by repeat (first | (with_reducible first | exact HB.out | apply below_alloc | apply pw_below_drewN | apply below_drew1) | exact HB.out)⟩⟩
              · replace c13 := Bool.eq_false_iff.mpr c13
                subst c13
                have H1 : (horariumlaw01_DigitsRing.j0 k a0 a1 t174 true (t178 != 0)) = some r := by rw [if_neg (show ¬ (false = true) by decide)] at H; exact H
                clear H
                have H := H1
                clear H1
                have H' := Aside0.mk H
                clear H
                go_wp2
                go_meet
                case rel => exact ⟨_, ((t178 != 0)), (by first | rfl | (simp; done) | (simp [*]; done)), H', ⟨by first | omega | exact Nat.le_refl _⟩, ⟨by repeat (first | (with_reducible first | exact HB.out | apply below_alloc | apply pw_below_drewN | apply below_drew1) | exact HB.out)⟩⟩
            · replace c12 := Bool.eq_false_iff.mpr c12
              subst c12
              have H1 : (if t174 = 0 then (if t179 = true then (horariumlaw01_DigitsRing.j0 k a0 a1 t174 false false) else (horariumlaw01_DigitsRing.j0 k a0 a1 t174 false (t178 != 0))) else (horariumlaw01_DigitsRing.j0 k a0 a1 t174 false true)) = some r := by rw [if_neg (show ¬ (false = true) by decide)] at H; exact H
              clear H
              have H := H1
              clear H1
              by_cases c14 : t174 = 0
              · rw [if_pos c14] at H
                have c14b0 : (t174 == 0) = true := beq_iff_eq.mpr c14
                have c14b1 : (t174 != 0) = false := bne_eq_false_iff_eq.mpr c14
                clear c14
                by_cases c15 : t179 = true
                · subst c15
                  have H1 : (horariumlaw01_DigitsRing.j0 k a0 a1 t174 false false) = some r := by rw [if_pos rfl] at H; exact H
                  clear H
                  have H := H1
                  clear H1
                  have H' := Aside0.mk H
                  clear H
                  go_wp2
                  go_meet
                  case rel => exact ⟨_, (false), (by first | rfl | (simp; done) | (simp [*]; done)), H', ⟨by first | omega | exact Nat.le_refl _⟩, ⟨by repeat (first | (with_reducible first | exact HB.out | apply below_alloc | apply pw_below_drewN | apply below_drew1) | exact HB.out)⟩⟩
                · replace c15 := Bool.eq_false_iff.mpr c15
                  subst c15
                  have H1 : (horariumlaw01_DigitsRing.j0 k a0 a1 t174 false (t178 != 0)) = some r := by rw [if_neg (show ¬ (false = true) by decide)] at H; exact H
                  clear H
                  have H := H1
                  clear H1
                  have H' := Aside0.mk H
                  clear H
                  go_wp2
                  go_meet
                  case rel => exact ⟨_, ((t178 != 0)), (by first | rfl | (simp; done) | (simp [*]; done)), H', ⟨by first | omega | exact Nat.le_refl _⟩, ⟨by repeat (first | (with_reducible first | exact HB.out | apply below_alloc | apply pw_below_drewN | apply below_drew1) | exact HB.out)⟩⟩
              · rw [if_neg c14] at H
                have c14b0 : (t174 == 0) = false := beq_eq_false_iff_ne.mpr c14
                have c14b1 : (t174 != 0) = true := bne_iff_ne.mpr c14
                have H' := Aside0.mk H
                clear H
                go_wp2
                go_meet
                case rel => exact ⟨_, (true), (by first | rfl | (simp; done) | (simp [*]; done)), H', ⟨by first | omega | exact Nat.le_refl _⟩, ⟨by repeat (first | (with_reducible first | exact HB.out | apply below_alloc | apply pw_below_drewN | apply below_drew1) | exact HB.out)⟩⟩
        · rw [if_neg c10] at H
          have c10b0 : (t178 == t180) = false := beq_eq_false_iff_ne.mpr c10
          have c10b1 : (t178 != t180) = true := bne_iff_ne.mpr c10
          have H' := Aside0.mk H
          clear H
          go_wp2
          go_meet
          case rel => exact ⟨_, (true), (by first | rfl | (simp; done) | (simp [*]; done)), H', ⟨by first | omega | exact Nat.le_refl _⟩, ⟨by repeat (first | (with_reducible first | exact HB.out | apply below_alloc | apply pw_below_drewN | apply below_drew1) | exact HB.out)⟩⟩
    · rw [if_neg c8] at H
      have c8b0 : (t174 == t176) = false := beq_eq_false_iff_ne.mpr c8
      have c8b1 : (t174 != t176) = true := bne_iff_ne.mpr c8
      (first | rw [c8b0] | (simp only [i64_w, i32_w]; rw [c8b0]) | skip)
      have H' := Aside0.mk H
      clear H
      go_wp2
      go_meet
      case rel => exact ⟨_, (true), (by first | rfl | (simp; done) | (simp [*]; done)), H', ⟨by first | omega | exact Nat.le_refl _⟩, ⟨by repeat (first | (with_reducible first | exact HB.out | apply below_alloc | apply pw_below_drewN | apply below_drew1) | exact HB.out)⟩⟩
  case rest =>
    clear HC7
    try clear c1
    try clear c2
    try clear p2
    try clear c7
    try clear c8
    try clear c8b0
    try clear c8b1
    try clear c9
    try clear c9b0
    try clear c9b1
    try clear c9b2
    try clear c10
    try clear c10b0
    try clear c10b1
    try clear c11
    try clear c11b0
    try clear c11b1
    try clear c11b2
    try clear c12
    try clear c13
    try clear c14
    try clear c14b0
    try clear c14b1
    try clear c15
    obtain ⟨kq, x74_6, rfl, HA, HJ6, HB⟩ := hcut
    cases kq with
    | zero => exact absurd HA.out (by simp [horariumlaw01_DigitsRing.j0])
    | succ kj6 =>
      have H := HA.out
      clear HA
      simp only [horariumlaw01_DigitsRing.j0] at H
      by_cases c16 : x74_6 = true
      · subst c16
        have H1 : (some false) = some r := by rw [if_pos rfl] at H; exact H
        clear H
        have H := H1
        clear H1
        obtain rfl := Option.some.inj H
        go_wp2
        go_ret
        exact ⟨by first | rfl | (simp [errW_none, errW_some] <;> rfl) | (simp [*, errW_none, errW_some] <;> rfl), by repeat (first | (with_reducible first | exact HB.out | apply below_alloc | apply pw_below_drewN | apply below_drew1) | exact HB.out)⟩
      · replace c16 := Bool.eq_false_iff.mpr c16
        subst c16
        have H1 : ((digits_Mul.f kj6 a0 1).bind fun bt182 => ((digits_Add.f a0 0).bind fun bt184 => (if bt182.1 = a0 then (if bt182.2 = true then (if bt184.1 = a0 then (if bt184.2 = true then (if t175 = true then (if a1 > 0 then (if t174 > a0 then ((horariumlaw01_heads.f kj6).bind fun t186 => (some t186)) else (if a1 < 0 then (if t174 < a0 then ((horariumlaw01_heads.f kj6).bind fun t187 => (some t187)) else (if a1 = 0 then (if t174 = a0 then ((horariumlaw01_heads.f kj6).bind fun t188 => (some t188)) else (some false)) else (some false))) else (if a1 = 0 then (if t174 = a0 then ((horariumlaw01_heads.f kj6).bind fun t189 => (some t189)) else (some false)) else (some false)))) else (if a1 < 0 then (if t174 < a0 then ((horariumlaw01_heads.f kj6).bind fun t190 => (some t190)) else (if a1 = 0 then (if t174 = a0 then ((horariumlaw01_heads.f kj6).bind fun t191 => (some t191)) else (some false)) else (some false))) else (if a1 = 0 then (if t174 = a0 then ((horariumlaw01_heads.f kj6).bind fun t192 => (some t192)) else (some false)) else (some false)))) else ((horariumlaw01_heads.f kj6).bind fun t193 => (some t193))) else (some false)) else (some false)) else (some false)) else (some false)))) = some r := by rw [if_neg (show ¬ (false = true) by decide)] at H; exact H
        clear H
        have H := H1
        clear H1
        replace H := Option.bind_eq_some_iff.mp H
        obtain ⟨⟨t182, t183⟩, A170, H⟩ := H
        replace H : ((digits_Add.f a0 0).bind fun bt184 => (if t182 = a0 then (if t183 = true then (if bt184.1 = a0 then (if bt184.2 = true then (if t175 = true then (if a1 > 0 then (if t174 > a0 then ((horariumlaw01_heads.f kj6).bind fun t186 => (some t186)) else (if a1 < 0 then (if t174 < a0 then ((horariumlaw01_heads.f kj6).bind fun t187 => (some t187)) else (if a1 = 0 then (if t174 = a0 then ((horariumlaw01_heads.f kj6).bind fun t188 => (some t188)) else (some false)) else (some false))) else (if a1 = 0 then (if t174 = a0 then ((horariumlaw01_heads.f kj6).bind fun t189 => (some t189)) else (some false)) else (some false)))) else (if a1 < 0 then (if t174 < a0 then ((horariumlaw01_heads.f kj6).bind fun t190 => (some t190)) else (if a1 = 0 then (if t174 = a0 then ((horariumlaw01_heads.f kj6).bind fun t191 => (some t191)) else (some false)) else (some false))) else (if a1 = 0 then (if t174 = a0 then ((horariumlaw01_heads.f kj6).bind fun t192 => (some t192)) else (some false)) else (some false)))) else ((horariumlaw01_heads.f kj6).bind fun t193 => (some t193))) else (some false)) else (some false)) else (some false)) else (some false))) = some r := H
        have A17 := Aside0.mk A170
        clear A170
        replace H := Option.bind_eq_some_iff.mp H
        obtain ⟨⟨t184, t185⟩, A180, H⟩ := H
        replace H : (if t182 = a0 then (if t183 = true then (if t184 = a0 then (if t185 = true then (if t175 = true then (if a1 > 0 then (if t174 > a0 then ((horariumlaw01_heads.f kj6).bind fun t186 => (some t186)) else (if a1 < 0 then (if t174 < a0 then ((horariumlaw01_heads.f kj6).bind fun t187 => (some t187)) else (if a1 = 0 then (if t174 = a0 then ((horariumlaw01_heads.f kj6).bind fun t188 => (some t188)) else (some false)) else (some false))) else (if a1 = 0 then (if t174 = a0 then ((horariumlaw01_heads.f kj6).bind fun t189 => (some t189)) else (some false)) else (some false)))) else (if a1 < 0 then (if t174 < a0 then ((horariumlaw01_heads.f kj6).bind fun t190 => (some t190)) else (if a1 = 0 then (if t174 = a0 then ((horariumlaw01_heads.f kj6).bind fun t191 => (some t191)) else (some false)) else (some false))) else (if a1 = 0 then (if t174 = a0 then ((horariumlaw01_heads.f kj6).bind fun t192 => (some t192)) else (some false)) else (some false)))) else ((horariumlaw01_heads.f kj6).bind fun t193 => (some t193))) else (some false)) else (some false)) else (some false)) else (some false)) = some r := H
        have A18 := Aside0.mk A180
        clear A180
        by_cases c19 : t182 = a0
        · rw [if_pos c19] at H
          have c19b0 : (t182 == a0) = true := beq_iff_eq.mpr c19
          have c19b1 : (t182 != a0) = false := bne_eq_false_iff_eq.mpr c19
          clear c19
          by_cases c20 : t183 = true
          · subst c20
            have H1 : (if t184 = a0 then (if t185 = true then (if t175 = true then (if a1 > 0 then (if t174 > a0 then ((horariumlaw01_heads.f kj6).bind fun t186 => (some t186)) else (if a1 < 0 then (if t174 < a0 then ((horariumlaw01_heads.f kj6).bind fun t187 => (some t187)) else (if a1 = 0 then (if t174 = a0 then ((horariumlaw01_heads.f kj6).bind fun t188 => (some t188)) else (some false)) else (some false))) else (if a1 = 0 then (if t174 = a0 then ((horariumlaw01_heads.f kj6).bind fun t189 => (some t189)) else (some false)) else (some false)))) else (if a1 < 0 then (if t174 < a0 then ((horariumlaw01_heads.f kj6).bind fun t190 => (some t190)) else (if a1 = 0 then (if t174 = a0 then ((horariumlaw01_heads.f kj6).bind fun t191 => (some t191)) else (some false)) else (some false))) else (if a1 = 0 then (if t174 = a0 then ((horariumlaw01_heads.f kj6).bind fun t192 => (some t192)) else (some false)) else (some false)))) else ((horariumlaw01_heads.f kj6).bind fun t193 => (some t193))) else (some false)) else (some false)) = some r := by rw [if_pos rfl] at H; exact H
            clear H
            have H := H1
            clear H1
            by_cases c21 : t184 = a0
            · rw [if_pos c21] at H
              have c21b0 : (t184 == a0) = true := beq_iff_eq.mpr c21
              have c21b1 : (t184 != a0) = false := bne_eq_false_iff_eq.mpr c21
              clear c21
              by_cases c22 : t185 = true
              · subst c22
                have H1 : (if t175 = true then (if a1 > 0 then (if t174 > a0 then ((horariumlaw01_heads.f kj6).bind fun t186 => (some t186)) else (if a1 < 0 then (if t174 < a0 then ((horariumlaw01_heads.f kj6).bind fun t187 => (some t187)) else (if a1 = 0 then (if t174 = a0 then ((horariumlaw01_heads.f kj6).bind fun t188 => (some t188)) else (some false)) else (some false))) else (if a1 = 0 then (if t174 = a0 then ((horariumlaw01_heads.f kj6).bind fun t189 => (some t189)) else (some false)) else (some false)))) else (if a1 < 0 then (if t174 < a0 then ((horariumlaw01_heads.f kj6).bind fun t190 => (some t190)) else (if a1 = 0 then (if t174 = a0 then ((horariumlaw01_heads.f kj6).bind fun t191 => (some t191)) else (some false)) else (some false))) else (if a1 = 0 then (if t174 = a0 then ((horariumlaw01_heads.f kj6).bind fun t192 => (some t192)) else (some false)) else (some false)))) else ((horariumlaw01_heads.f kj6).bind fun t193 => (some t193))) = some r := by rw [if_pos rfl] at H; exact H
                clear H
                have H := H1
                clear H1
                by_cases c23 : t175 = true
                · subst c23
                  have H1 : (if a1 > 0 then (if t174 > a0 then ((horariumlaw01_heads.f kj6).bind fun t186 => (some t186)) else (if a1 < 0 then (if t174 < a0 then ((horariumlaw01_heads.f kj6).bind fun t187 => (some t187)) else (if a1 = 0 then (if t174 = a0 then ((horariumlaw01_heads.f kj6).bind fun t188 => (some t188)) else (some false)) else (some false))) else (if a1 = 0 then (if t174 = a0 then ((horariumlaw01_heads.f kj6).bind fun t189 => (some t189)) else (some false)) else (some false)))) else (if a1 < 0 then (if t174 < a0 then ((horariumlaw01_heads.f kj6).bind fun t190 => (some t190)) else (if a1 = 0 then (if t174 = a0 then ((horariumlaw01_heads.f kj6).bind fun t191 => (some t191)) else (some false)) else (some false))) else (if a1 = 0 then (if t174 = a0 then ((horariumlaw01_heads.f kj6).bind fun t192 => (some t192)) else (some false)) else (some false)))) = some r := by rw [if_pos rfl] at H; exact H
                  clear H
                  have H := H1
                  clear H1
                  by_cases c24 : a1 > 0
                  · rw [if_pos c24] at H
                    have c24b0 : decide (0 < a1) = true := decide_eq_true c24
                    clear c24
                    by_cases c25 : t174 > a0
                    · rw [if_pos c25] at H
                      have c25b0 : decide (a0 < t174) = true := decide_eq_true c25
                      clear c25
                      replace H := Option.bind_eq_some_iff.mp H
                      obtain ⟨t186, A260, H⟩ := H
                      replace H : (some t186) = some r := H
                      have A26 := Aside0.mk A260
                      clear A260
                      obtain rfl := Option.some.inj H
                      go_wp2_with (first | ((with_reducible refine gate_callee (f := 20) rfl ?_); refine goesL_ (some 77) rfl rfl Try.func20 (by kernel_rfl) rfl #[.int .i64 a0, .int .i64 1] rfl (by (try simp only [List.map_toArray, List.map_cons, List.map_nil]); first | done | rfl | (simp only [List.length_drop, List.length_take]; rfl)) ?_; (with_reducible refine (digits_Mul.calls kj6 a0 1 t182 true _ A17.out).mono ?_); rintro e w' ⟨rfl, ⟨nd, rfl⟩⟩; refine ⟨_, rfl, ?_⟩) | ((with_reducible refine gate_callee (f := 18) rfl ?_); refine goesL_ (some 82) rfl rfl Try.func18 (by kernel_rfl) rfl #[.int .i64 a0, .int .i64 0] rfl (by (try simp only [List.map_toArray, List.map_cons, List.map_nil]); first | done | rfl | (simp only [List.length_drop, List.length_take]; rfl)) ?_; (with_reducible refine (digits_Add.calls a0 0 t184 true _ A18.out).mono ?_); rintro e w' ⟨rfl, ⟨nd, rfl⟩⟩; refine ⟨_, rfl, ?_⟩) | (go_at_call 17; (with_reducible refine (horariumlaw01_heads.calls kj6  t186 _ A26.out).mono ?_); rintro e w27 ⟨rfl, hb⟩; have n0_ := Aside0.mk (below_step (by repeat (first | (with_reducible first | exact HB.out | apply below_alloc | apply pw_below_drewN | apply below_drew1) | exact HB.out)) hb); clear HB; have HB := n0_; clear n0_; (try clear hb); (try clear hb2); (try clear hk); (try clear hi)))
                      go_ret
                      exact ⟨by first | rfl | (simp [errW_none, errW_some] <;> rfl) | (simp [*, errW_none, errW_some] <;> rfl), by repeat (first | (with_reducible first | exact HB.out | apply below_alloc | apply pw_below_drewN | apply below_drew1) | exact HB.out)⟩
                    · rw [if_neg c25] at H
                      have c25b0 : decide (a0 < t174) = false := decide_eq_false c25
                      clear c25
                      by_cases c28 : a1 < 0
                      · rw [if_pos c28] at H
                        have c28b0 : decide (a1 < 0) = true := decide_eq_true c28
                        clear c28
                        by_cases c29 : t174 < a0
                        · rw [if_pos c29] at H
                          have c29b0 : decide (t174 < a0) = true := decide_eq_true c29
                          clear c29
                          replace H := Option.bind_eq_some_iff.mp H
                          obtain ⟨t187, A300, H⟩ := H
                          replace H : (some t187) = some r := H
                          have A30 := Aside0.mk A300
                          clear A300
                          obtain rfl := Option.some.inj H
                          go_wp2_with (first | ((with_reducible refine gate_callee (f := 20) rfl ?_); refine goesL_ (some 77) rfl rfl Try.func20 (by kernel_rfl) rfl #[.int .i64 a0, .int .i64 1] rfl (by (try simp only [List.map_toArray, List.map_cons, List.map_nil]); first | done | rfl | (simp only [List.length_drop, List.length_take]; rfl)) ?_; (with_reducible refine (digits_Mul.calls kj6 a0 1 t182 true _ A17.out).mono ?_); rintro e w' ⟨rfl, ⟨nd, rfl⟩⟩; refine ⟨_, rfl, ?_⟩) | ((with_reducible refine gate_callee (f := 18) rfl ?_); refine goesL_ (some 82) rfl rfl Try.func18 (by kernel_rfl) rfl #[.int .i64 a0, .int .i64 0] rfl (by (try simp only [List.map_toArray, List.map_cons, List.map_nil]); first | done | rfl | (simp only [List.length_drop, List.length_take]; rfl)) ?_; (with_reducible refine (digits_Add.calls a0 0 t184 true _ A18.out).mono ?_); rintro e w' ⟨rfl, ⟨nd, rfl⟩⟩; refine ⟨_, rfl, ?_⟩) | (go_at_call 17; (with_reducible refine (horariumlaw01_heads.calls kj6  t187 _ A30.out).mono ?_); rintro e w31 ⟨rfl, hb⟩; have n0_ := Aside0.mk (below_step (by repeat (first | (with_reducible first | exact HB.out | apply below_alloc | apply pw_below_drewN | apply below_drew1) | exact HB.out)) hb); clear HB; have HB := n0_; clear n0_; (try clear hb); (try clear hb2); (try clear hk); (try clear hi)))
                          go_ret
                          exact ⟨by first | rfl | (simp [errW_none, errW_some] <;> rfl) | (simp [*, errW_none, errW_some] <;> rfl), by repeat (first | (with_reducible first | exact HB.out | apply below_alloc | apply pw_below_drewN | apply below_drew1) | exact HB.out)⟩
                        · rw [if_neg c29] at H
                          have c29b0 : decide (t174 < a0) = false := decide_eq_false c29
                          clear c29
                          by_cases c32 : a1 = 0
                          · rw [if_pos c32] at H
                            have c32b0 : (a1 == 0) = true := beq_iff_eq.mpr c32
                            have c32b1 : (a1 != 0) = false := bne_eq_false_iff_eq.mpr c32
                            clear c32
                            by_cases c33 : t174 = a0
                            · rw [if_pos c33] at H
                              have c33b0 : (t174 == a0) = true := beq_iff_eq.mpr c33
                              have c33b1 : (t174 != a0) = false := bne_eq_false_iff_eq.mpr c33
                              clear c33
                              replace H := Option.bind_eq_some_iff.mp H
                              obtain ⟨t188, A340, H⟩ := H
                              replace H : (some t188) = some r := H
                              have A34 := Aside0.mk A340
                              clear A340
                              obtain rfl := Option.some.inj H
                              go_wp2_with (first | ((with_reducible refine gate_callee (f := 20) rfl ?_); refine goesL_ (some 77) rfl rfl Try.func20 (by kernel_rfl) rfl #[.int .i64 a0, .int .i64 1] rfl (by (try simp only [List.map_toArray, List.map_cons, List.map_nil]); first | done | rfl | (simp only [List.length_drop, List.length_take]; rfl)) ?_; (with_reducible refine (digits_Mul.calls kj6 a0 1 t182 true _ A17.out).mono ?_); rintro e w' ⟨rfl, ⟨nd, rfl⟩⟩; refine ⟨_, rfl, ?_⟩) | ((with_reducible refine gate_callee (f := 18) rfl ?_); refine goesL_ (some 82) rfl rfl Try.func18 (by kernel_rfl) rfl #[.int .i64 a0, .int .i64 0] rfl (by (try simp only [List.map_toArray, List.map_cons, List.map_nil]); first | done | rfl | (simp only [List.length_drop, List.length_take]; rfl)) ?_; (with_reducible refine (digits_Add.calls a0 0 t184 true _ A18.out).mono ?_); rintro e w' ⟨rfl, ⟨nd, rfl⟩⟩; refine ⟨_, rfl, ?_⟩) | (go_at_call 17; (with_reducible refine (horariumlaw01_heads.calls kj6  t188 _ A34.out).mono ?_); rintro e w35 ⟨rfl, hb⟩; have n0_ := Aside0.mk (below_step (by repeat (first | (with_reducible first | exact HB.out | apply below_alloc | apply pw_below_drewN | apply below_drew1) | exact HB.out)) hb); clear HB; have HB := n0_; clear n0_; (try clear hb); (try clear hb2); (try clear hk); (try clear hi)))
                              go_ret
                              exact ⟨by first | rfl | (simp [errW_none, errW_some] <;> rfl) | (simp [*, errW_none, errW_some] <;> rfl), by repeat (first | (with_reducible first | exact HB.out | apply below_alloc | apply pw_below_drewN | apply below_drew1) | exact HB.out)⟩
                            · rw [if_neg c33] at H
                              have c33b0 : (t174 == a0) = false := beq_eq_false_iff_ne.mpr c33
                              have c33b1 : (t174 != a0) = true := bne_iff_ne.mpr c33
                              obtain rfl := Option.some.inj H
                              go_wp2_with (first | ((with_reducible refine gate_callee (f := 20) rfl ?_); refine goesL_ (some 77) rfl rfl Try.func20 (by kernel_rfl) rfl #[.int .i64 a0, .int .i64 1] rfl (by (try simp only [List.map_toArray, List.map_cons, List.map_nil]); first | done | rfl | (simp only [List.length_drop, List.length_take]; rfl)) ?_; (with_reducible refine (digits_Mul.calls kj6 a0 1 t182 true _ A17.out).mono ?_); rintro e w' ⟨rfl, ⟨nd, rfl⟩⟩; refine ⟨_, rfl, ?_⟩) | ((with_reducible refine gate_callee (f := 18) rfl ?_); refine goesL_ (some 82) rfl rfl Try.func18 (by kernel_rfl) rfl #[.int .i64 a0, .int .i64 0] rfl (by (try simp only [List.map_toArray, List.map_cons, List.map_nil]); first | done | rfl | (simp only [List.length_drop, List.length_take]; rfl)) ?_; (with_reducible refine (digits_Add.calls a0 0 t184 true _ A18.out).mono ?_); rintro e w' ⟨rfl, ⟨nd, rfl⟩⟩; refine ⟨_, rfl, ?_⟩))
                              go_ret
                              exact ⟨by first | rfl | (simp [errW_none, errW_some] <;> rfl) | (simp [*, errW_none, errW_some] <;> rfl), by repeat (first | (with_reducible first | exact HB.out | apply below_alloc | apply pw_below_drewN | apply below_drew1) | exact HB.out)⟩
                          · rw [if_neg c32] at H
                            have c32b0 : (a1 == 0) = false := beq_eq_false_iff_ne.mpr c32
                            have c32b1 : (a1 != 0) = true := bne_iff_ne.mpr c32
                            obtain rfl := Option.some.inj H
                            go_wp2_with (first | ((with_reducible refine gate_callee (f := 20) rfl ?_); refine goesL_ (some 77) rfl rfl Try.func20 (by kernel_rfl) rfl #[.int .i64 a0, .int .i64 1] rfl (by (try simp only [List.map_toArray, List.map_cons, List.map_nil]); first | done | rfl | (simp only [List.length_drop, List.length_take]; rfl)) ?_; (with_reducible refine (digits_Mul.calls kj6 a0 1 t182 true _ A17.out).mono ?_); rintro e w' ⟨rfl, ⟨nd, rfl⟩⟩; refine ⟨_, rfl, ?_⟩) | ((with_reducible refine gate_callee (f := 18) rfl ?_); refine goesL_ (some 82) rfl rfl Try.func18 (by kernel_rfl) rfl #[.int .i64 a0, .int .i64 0] rfl (by (try simp only [List.map_toArray, List.map_cons, List.map_nil]); first | done | rfl | (simp only [List.length_drop, List.length_take]; rfl)) ?_; (with_reducible refine (digits_Add.calls a0 0 t184 true _ A18.out).mono ?_); rintro e w' ⟨rfl, ⟨nd, rfl⟩⟩; refine ⟨_, rfl, ?_⟩))
                            go_ret
                            exact ⟨by first | rfl | (simp [errW_none, errW_some] <;> rfl) | (simp [*, errW_none, errW_some] <;> rfl), by repeat (first | (with_reducible first | exact HB.out | apply below_alloc | apply pw_below_drewN | apply below_drew1) | exact HB.out)⟩
                      · rw [if_neg c28] at H
                        have c28b0 : decide (a1 < 0) = false := decide_eq_false c28
                        clear c28
                        by_cases c36 : a1 = 0
                        · rw [if_pos c36] at H
                          have c36b0 : (a1 == 0) = true := beq_iff_eq.mpr c36
                          have c36b1 : (a1 != 0) = false := bne_eq_false_iff_eq.mpr c36
                          clear c36
                          by_cases c37 : t174 = a0
                          · rw [if_pos c37] at H
                            have c37b0 : (t174 == a0) = true := beq_iff_eq.mpr c37
                            have c37b1 : (t174 != a0) = false := bne_eq_false_iff_eq.mpr c37
                            clear c37
                            replace H := Option.bind_eq_some_iff.mp H
                            obtain ⟨t189, A380, H⟩ := H
                            replace H : (some t189) = some r := H
                            have A38 := Aside0.mk A380
                            clear A380
                            obtain rfl := Option.some.inj H
                            go_wp2_with (first | ((with_reducible refine gate_callee (f := 20) rfl ?_); refine goesL_ (some 77) rfl rfl Try.func20 (by kernel_rfl) rfl #[.int .i64 a0, .int .i64 1] rfl (by (try simp only [List.map_toArray, List.map_cons, List.map_nil]); first | done | rfl | (simp only [List.length_drop, List.length_take]; rfl)) ?_; (with_reducible refine (digits_Mul.calls kj6 a0 1 t182 true _ A17.out).mono ?_); rintro e w' ⟨rfl, ⟨nd, rfl⟩⟩; refine ⟨_, rfl, ?_⟩) | ((with_reducible refine gate_callee (f := 18) rfl ?_); refine goesL_ (some 82) rfl rfl Try.func18 (by kernel_rfl) rfl #[.int .i64 a0, .int .i64 0] rfl (by (try simp only [List.map_toArray, List.map_cons, List.map_nil]); first | done | rfl | (simp only [List.length_drop, List.length_take]; rfl)) ?_; (with_reducible refine (digits_Add.calls a0 0 t184 true _ A18.out).mono ?_); rintro e w' ⟨rfl, ⟨nd, rfl⟩⟩; refine ⟨_, rfl, ?_⟩) | (go_at_call 17; (with_reducible refine (horariumlaw01_heads.calls kj6  t189 _ A38.out).mono ?_); rintro e w39 ⟨rfl, hb⟩; have n0_ := Aside0.mk (below_step (by repeat (first | (with_reducible first | exact HB.out | apply below_alloc | apply pw_below_drewN | apply below_drew1) | exact HB.out)) hb); clear HB; have HB := n0_; clear n0_; (try clear hb); (try clear hb2); (try clear hk); (try clear hi)))
                            go_ret
                            exact ⟨by first | rfl | (simp [errW_none, errW_some] <;> rfl) | (simp [*, errW_none, errW_some] <;> rfl), by repeat (first | (with_reducible first | exact HB.out | apply below_alloc | apply pw_below_drewN | apply below_drew1) | exact HB.out)⟩
                          · rw [if_neg c37] at H
                            have c37b0 : (t174 == a0) = false := beq_eq_false_iff_ne.mpr c37
                            have c37b1 : (t174 != a0) = true := bne_iff_ne.mpr c37
                            obtain rfl := Option.some.inj H
                            go_wp2_with (first | ((with_reducible refine gate_callee (f := 20) rfl ?_); refine goesL_ (some 77) rfl rfl Try.func20 (by kernel_rfl) rfl #[.int .i64 a0, .int .i64 1] rfl (by (try simp only [List.map_toArray, List.map_cons, List.map_nil]); first | done | rfl | (simp only [List.length_drop, List.length_take]; rfl)) ?_; (with_reducible refine (digits_Mul.calls kj6 a0 1 t182 true _ A17.out).mono ?_); rintro e w' ⟨rfl, ⟨nd, rfl⟩⟩; refine ⟨_, rfl, ?_⟩) | ((with_reducible refine gate_callee (f := 18) rfl ?_); refine goesL_ (some 82) rfl rfl Try.func18 (by kernel_rfl) rfl #[.int .i64 a0, .int .i64 0] rfl (by (try simp only [List.map_toArray, List.map_cons, List.map_nil]); first | done | rfl | (simp only [List.length_drop, List.length_take]; rfl)) ?_; (with_reducible refine (digits_Add.calls a0 0 t184 true _ A18.out).mono ?_); rintro e w' ⟨rfl, ⟨nd, rfl⟩⟩; refine ⟨_, rfl, ?_⟩))
                            go_ret
                            exact ⟨by first | rfl | (simp [errW_none, errW_some] <;> rfl) | (simp [*, errW_none, errW_some] <;> rfl), by repeat (first | (with_reducible first | exact HB.out | apply below_alloc | apply pw_below_drewN | apply below_drew1) | exact HB.out)⟩
                        · rw [if_neg c36] at H
                          have c36b0 : (a1 == 0) = false := beq_eq_false_iff_ne.mpr c36
                          have c36b1 : (a1 != 0) = true := bne_iff_ne.mpr c36
                          obtain rfl := Option.some.inj H
                          go_wp2_with (first | ((with_reducible refine gate_callee (f := 20) rfl ?_); refine goesL_ (some 77) rfl rfl Try.func20 (by kernel_rfl) rfl #[.int .i64 a0, .int .i64 1] rfl (by (try simp only [List.map_toArray, List.map_cons, List.map_nil]); first | done | rfl | (simp only [List.length_drop, List.length_take]; rfl)) ?_; (with_reducible refine (digits_Mul.calls kj6 a0 1 t182 true _ A17.out).mono ?_); rintro e w' ⟨rfl, ⟨nd, rfl⟩⟩; refine ⟨_, rfl, ?_⟩) | ((with_reducible refine gate_callee (f := 18) rfl ?_); refine goesL_ (some 82) rfl rfl Try.func18 (by kernel_rfl) rfl #[.int .i64 a0, .int .i64 0] rfl (by (try simp only [List.map_toArray, List.map_cons, List.map_nil]); first | done | rfl | (simp only [List.length_drop, List.length_take]; rfl)) ?_; (with_reducible refine (digits_Add.calls a0 0 t184 true _ A18.out).mono ?_); rintro e w' ⟨rfl, ⟨nd, rfl⟩⟩; refine ⟨_, rfl, ?_⟩))
                          go_ret
                          exact ⟨by first | rfl | (simp [errW_none, errW_some] <;> rfl) | (simp [*, errW_none, errW_some] <;> rfl), by repeat (first | (with_reducible first | exact HB.out | apply below_alloc | apply pw_below_drewN | apply below_drew1) | exact HB.out)⟩
                  · rw [if_neg c24] at H
                    have c24b0 : decide (0 < a1) = false := decide_eq_false c24
                    clear c24
                    by_cases c40 : a1 < 0
                    · rw [if_pos c40] at H
                      have c40b0 : decide (a1 < 0) = true := decide_eq_true c40
                      clear c40
                      by_cases c41 : t174 < a0
                      · rw [if_pos c41] at H
                        have c41b0 : decide (t174 < a0) = true := decide_eq_true c41
                        clear c41
                        replace H := Option.bind_eq_some_iff.mp H
                        obtain ⟨t190, A420, H⟩ := H
                        replace H : (some t190) = some r := H
                        have A42 := Aside0.mk A420
                        clear A420
                        obtain rfl := Option.some.inj H
                        go_wp2_with (first | ((with_reducible refine gate_callee (f := 20) rfl ?_); refine goesL_ (some 77) rfl rfl Try.func20 (by kernel_rfl) rfl #[.int .i64 a0, .int .i64 1] rfl (by (try simp only [List.map_toArray, List.map_cons, List.map_nil]); first | done | rfl | (simp only [List.length_drop, List.length_take]; rfl)) ?_; (with_reducible refine (digits_Mul.calls kj6 a0 1 t182 true _ A17.out).mono ?_); rintro e w' ⟨rfl, ⟨nd, rfl⟩⟩; refine ⟨_, rfl, ?_⟩) | ((with_reducible refine gate_callee (f := 18) rfl ?_); refine goesL_ (some 82) rfl rfl Try.func18 (by kernel_rfl) rfl #[.int .i64 a0, .int .i64 0] rfl (by (try simp only [List.map_toArray, List.map_cons, List.map_nil]); first | done | rfl | (simp only [List.length_drop, List.length_take]; rfl)) ?_; (with_reducible refine (digits_Add.calls a0 0 t184 true _ A18.out).mono ?_); rintro e w' ⟨rfl, ⟨nd, rfl⟩⟩; refine ⟨_, rfl, ?_⟩) | (go_at_call 17; (with_reducible refine (horariumlaw01_heads.calls kj6  t190 _ A42.out).mono ?_); rintro e w43 ⟨rfl, hb⟩; have n0_ := Aside0.mk (below_step (by repeat (first | (with_reducible first | exact HB.out | apply below_alloc | apply pw_below_drewN | apply below_drew1) | exact HB.out)) hb); clear HB; have HB := n0_; clear n0_; (try clear hb); (try clear hb2); (try clear hk); (try clear hi)))
                        go_ret
                        exact ⟨by first | rfl | (simp [errW_none, errW_some] <;> rfl) | (simp [*, errW_none, errW_some] <;> rfl), by repeat (first | (with_reducible first | exact HB.out | apply below_alloc | apply pw_below_drewN | apply below_drew1) | exact HB.out)⟩
                      · rw [if_neg c41] at H
                        have c41b0 : decide (t174 < a0) = false := decide_eq_false c41
                        clear c41
                        by_cases c44 : a1 = 0
                        · rw [if_pos c44] at H
                          have c44b0 : (a1 == 0) = true := beq_iff_eq.mpr c44
                          have c44b1 : (a1 != 0) = false := bne_eq_false_iff_eq.mpr c44
                          clear c44
                          by_cases c45 : t174 = a0
                          · rw [if_pos c45] at H
                            have c45b0 : (t174 == a0) = true := beq_iff_eq.mpr c45
                            have c45b1 : (t174 != a0) = false := bne_eq_false_iff_eq.mpr c45
                            clear c45
                            replace H := Option.bind_eq_some_iff.mp H
                            obtain ⟨t191, A460, H⟩ := H
                            replace H : (some t191) = some r := H
                            have A46 := Aside0.mk A460
                            clear A460
                            obtain rfl := Option.some.inj H
                            go_wp2_with (first | ((with_reducible refine gate_callee (f := 20) rfl ?_); refine goesL_ (some 77) rfl rfl Try.func20 (by kernel_rfl) rfl #[.int .i64 a0, .int .i64 1] rfl (by (try simp only [List.map_toArray, List.map_cons, List.map_nil]); first | done | rfl | (simp only [List.length_drop, List.length_take]; rfl)) ?_; (with_reducible refine (digits_Mul.calls kj6 a0 1 t182 true _ A17.out).mono ?_); rintro e w' ⟨rfl, ⟨nd, rfl⟩⟩; refine ⟨_, rfl, ?_⟩) | ((with_reducible refine gate_callee (f := 18) rfl ?_); refine goesL_ (some 82) rfl rfl Try.func18 (by kernel_rfl) rfl #[.int .i64 a0, .int .i64 0] rfl (by (try simp only [List.map_toArray, List.map_cons, List.map_nil]); first | done | rfl | (simp only [List.length_drop, List.length_take]; rfl)) ?_; (with_reducible refine (digits_Add.calls a0 0 t184 true _ A18.out).mono ?_); rintro e w' ⟨rfl, ⟨nd, rfl⟩⟩; refine ⟨_, rfl, ?_⟩) | (go_at_call 17; (with_reducible refine (horariumlaw01_heads.calls kj6  t191 _ A46.out).mono ?_); rintro e w47 ⟨rfl, hb⟩; have n0_ := Aside0.mk (below_step (by repeat (first | (with_reducible first | exact HB.out | apply below_alloc | apply pw_below_drewN | apply below_drew1) | exact HB.out)) hb); clear HB; have HB := n0_; clear n0_; (try clear hb); (try clear hb2); (try clear hk); (try clear hi)))
                            go_ret
                            exact ⟨by first | rfl | (simp [errW_none, errW_some] <;> rfl) | (simp [*, errW_none, errW_some] <;> rfl), by repeat (first | (with_reducible first | exact HB.out | apply below_alloc | apply pw_below_drewN | apply below_drew1) | exact HB.out)⟩
                          · rw [if_neg c45] at H
                            have c45b0 : (t174 == a0) = false := beq_eq_false_iff_ne.mpr c45
                            have c45b1 : (t174 != a0) = true := bne_iff_ne.mpr c45
                            obtain rfl := Option.some.inj H
                            go_wp2_with (first | ((with_reducible refine gate_callee (f := 20) rfl ?_); refine goesL_ (some 77) rfl rfl Try.func20 (by kernel_rfl) rfl #[.int .i64 a0, .int .i64 1] rfl (by (try simp only [List.map_toArray, List.map_cons, List.map_nil]); first | done | rfl | (simp only [List.length_drop, List.length_take]; rfl)) ?_; (with_reducible refine (digits_Mul.calls kj6 a0 1 t182 true _ A17.out).mono ?_); rintro e w' ⟨rfl, ⟨nd, rfl⟩⟩; refine ⟨_, rfl, ?_⟩) | ((with_reducible refine gate_callee (f := 18) rfl ?_); refine goesL_ (some 82) rfl rfl Try.func18 (by kernel_rfl) rfl #[.int .i64 a0, .int .i64 0] rfl (by (try simp only [List.map_toArray, List.map_cons, List.map_nil]); first | done | rfl | (simp only [List.length_drop, List.length_take]; rfl)) ?_; (with_reducible refine (digits_Add.calls a0 0 t184 true _ A18.out).mono ?_); rintro e w' ⟨rfl, ⟨nd, rfl⟩⟩; refine ⟨_, rfl, ?_⟩))
                            go_ret
                            exact ⟨by first | rfl | (simp [errW_none, errW_some] <;> rfl) | (simp [*, errW_none, errW_some] <;> rfl), by repeat (first | (with_reducible first | exact HB.out | apply below_alloc | apply pw_below_drewN | apply below_drew1) | exact HB.out)⟩
                        · rw [if_neg c44] at H
                          have c44b0 : (a1 == 0) = false := beq_eq_false_iff_ne.mpr c44
                          have c44b1 : (a1 != 0) = true := bne_iff_ne.mpr c44
                          obtain rfl := Option.some.inj H
                          go_wp2_with (first | ((with_reducible refine gate_callee (f := 20) rfl ?_); refine goesL_ (some 77) rfl rfl Try.func20 (by kernel_rfl) rfl #[.int .i64 a0, .int .i64 1] rfl (by (try simp only [List.map_toArray, List.map_cons, List.map_nil]); first | done | rfl | (simp only [List.length_drop, List.length_take]; rfl)) ?_; (with_reducible refine (digits_Mul.calls kj6 a0 1 t182 true _ A17.out).mono ?_); rintro e w' ⟨rfl, ⟨nd, rfl⟩⟩; refine ⟨_, rfl, ?_⟩) | ((with_reducible refine gate_callee (f := 18) rfl ?_); refine goesL_ (some 82) rfl rfl Try.func18 (by kernel_rfl) rfl #[.int .i64 a0, .int .i64 0] rfl (by (try simp only [List.map_toArray, List.map_cons, List.map_nil]); first | done | rfl | (simp only [List.length_drop, List.length_take]; rfl)) ?_; (with_reducible refine (digits_Add.calls a0 0 t184 true _ A18.out).mono ?_); rintro e w' ⟨rfl, ⟨nd, rfl⟩⟩; refine ⟨_, rfl, ?_⟩))
                          go_ret
                          exact ⟨by first | rfl | (simp [errW_none, errW_some] <;> rfl) | (simp [*, errW_none, errW_some] <;> rfl), by repeat (first | (with_reducible first | exact HB.out | apply below_alloc | apply pw_below_drewN | apply below_drew1) | exact HB.out)⟩
                    · rw [if_neg c40] at H
                      have c40b0 : decide (a1 < 0) = false := decide_eq_false c40
                      clear c40
                      by_cases c48 : a1 = 0
                      · rw [if_pos c48] at H
                        have c48b0 : (a1 == 0) = true := beq_iff_eq.mpr c48
                        have c48b1 : (a1 != 0) = false := bne_eq_false_iff_eq.mpr c48
                        clear c48
                        by_cases c49 : t174 = a0
                        · rw [if_pos c49] at H
                          have c49b0 : (t174 == a0) = true := beq_iff_eq.mpr c49
                          have c49b1 : (t174 != a0) = false := bne_eq_false_iff_eq.mpr c49
                          clear c49
                          replace H := Option.bind_eq_some_iff.mp H
                          obtain ⟨t192, A500, H⟩ := H
                          replace H : (some t192) = some r := H
                          have A50 := Aside0.mk A500
                          clear A500
                          obtain rfl := Option.some.inj H
                          go_wp2_with (first | ((with_reducible refine gate_callee (f := 20) rfl ?_); refine goesL_ (some 77) rfl rfl Try.func20 (by kernel_rfl) rfl #[.int .i64 a0, .int .i64 1] rfl (by (try simp only [List.map_toArray, List.map_cons, List.map_nil]); first | done | rfl | (simp only [List.length_drop, List.length_take]; rfl)) ?_; (with_reducible refine (digits_Mul.calls kj6 a0 1 t182 true _ A17.out).mono ?_); rintro e w' ⟨rfl, ⟨nd, rfl⟩⟩; refine ⟨_, rfl, ?_⟩) | ((with_reducible refine gate_callee (f := 18) rfl ?_); refine goesL_ (some 82) rfl rfl Try.func18 (by kernel_rfl) rfl #[.int .i64 a0, .int .i64 0] rfl (by (try simp only [List.map_toArray, List.map_cons, List.map_nil]); first | done | rfl | (simp only [List.length_drop, List.length_take]; rfl)) ?_; (with_reducible refine (digits_Add.calls a0 0 t184 true _ A18.out).mono ?_); rintro e w' ⟨rfl, ⟨nd, rfl⟩⟩; refine ⟨_, rfl, ?_⟩) | (go_at_call 17; (with_reducible refine (horariumlaw01_heads.calls kj6  t192 _ A50.out).mono ?_); rintro e w51 ⟨rfl, hb⟩; have n0_ := Aside0.mk (below_step (by repeat (first | (with_reducible first | exact HB.out | apply below_alloc | apply pw_below_drewN | apply below_drew1) | exact HB.out)) hb); clear HB; have HB := n0_; clear n0_; (try clear hb); (try clear hb2); (try clear hk); (try clear hi)))
                          go_ret
                          exact ⟨by first | rfl | (simp [errW_none, errW_some] <;> rfl) | (simp [*, errW_none, errW_some] <;> rfl), by repeat (first | (with_reducible first | exact HB.out | apply below_alloc | apply pw_below_drewN | apply below_drew1) | exact HB.out)⟩
                        · rw [if_neg c49] at H
                          have c49b0 : (t174 == a0) = false := beq_eq_false_iff_ne.mpr c49
                          have c49b1 : (t174 != a0) = true := bne_iff_ne.mpr c49
                          obtain rfl := Option.some.inj H
                          go_wp2_with (first | ((with_reducible refine gate_callee (f := 20) rfl ?_); refine goesL_ (some 77) rfl rfl Try.func20 (by kernel_rfl) rfl #[.int .i64 a0, .int .i64 1] rfl (by (try simp only [List.map_toArray, List.map_cons, List.map_nil]); first | done | rfl | (simp only [List.length_drop, List.length_take]; rfl)) ?_; (with_reducible refine (digits_Mul.calls kj6 a0 1 t182 true _ A17.out).mono ?_); rintro e w' ⟨rfl, ⟨nd, rfl⟩⟩; refine ⟨_, rfl, ?_⟩) | ((with_reducible refine gate_callee (f := 18) rfl ?_); refine goesL_ (some 82) rfl rfl Try.func18 (by kernel_rfl) rfl #[.int .i64 a0, .int .i64 0] rfl (by (try simp only [List.map_toArray, List.map_cons, List.map_nil]); first | done | rfl | (simp only [List.length_drop, List.length_take]; rfl)) ?_; (with_reducible refine (digits_Add.calls a0 0 t184 true _ A18.out).mono ?_); rintro e w' ⟨rfl, ⟨nd, rfl⟩⟩; refine ⟨_, rfl, ?_⟩))
                          go_ret
                          exact ⟨by first | rfl | (simp [errW_none, errW_some] <;> rfl) | (simp [*, errW_none, errW_some] <;> rfl), by repeat (first | (with_reducible first | exact HB.out | apply below_alloc | apply pw_below_drewN | apply below_drew1) | exact HB.out)⟩
                      · rw [if_neg c48] at H
                        have c48b0 : (a1 == 0) = false := beq_eq_false_iff_ne.mpr c48
                        have c48b1 : (a1 != 0) = true := bne_iff_ne.mpr c48
                        obtain rfl := Option.some.inj H
                        go_wp2_with (first | ((with_reducible refine gate_callee (f := 20) rfl ?_); refine goesL_ (some 77) rfl rfl Try.func20 (by kernel_rfl) rfl #[.int .i64 a0, .int .i64 1] rfl (by (try simp only [List.map_toArray, List.map_cons, List.map_nil]); first | done | rfl | (simp only [List.length_drop, List.length_take]; rfl)) ?_; (with_reducible refine (digits_Mul.calls kj6 a0 1 t182 true _ A17.out).mono ?_); rintro e w' ⟨rfl, ⟨nd, rfl⟩⟩; refine ⟨_, rfl, ?_⟩) | ((with_reducible refine gate_callee (f := 18) rfl ?_); refine goesL_ (some 82) rfl rfl Try.func18 (by kernel_rfl) rfl #[.int .i64 a0, .int .i64 0] rfl (by (try simp only [List.map_toArray, List.map_cons, List.map_nil]); first | done | rfl | (simp only [List.length_drop, List.length_take]; rfl)) ?_; (with_reducible refine (digits_Add.calls a0 0 t184 true _ A18.out).mono ?_); rintro e w' ⟨rfl, ⟨nd, rfl⟩⟩; refine ⟨_, rfl, ?_⟩))
                        go_ret
                        exact ⟨by first | rfl | (simp [errW_none, errW_some] <;> rfl) | (simp [*, errW_none, errW_some] <;> rfl), by repeat (first | (with_reducible first | exact HB.out | apply below_alloc | apply pw_below_drewN | apply below_drew1) | exact HB.out)⟩
                · replace c23 := Bool.eq_false_iff.mpr c23
                  subst c23
                  have H1 : ((horariumlaw01_heads.f kj6).bind fun t193 => (some t193)) = some r := by rw [if_neg (show ¬ (false = true) by decide)] at H; exact H
                  clear H
                  have H := H1
                  clear H1
                  replace H := Option.bind_eq_some_iff.mp H
                  obtain ⟨t193, A520, H⟩ := H
                  replace H : (some t193) = some r := H
                  have A52 := Aside0.mk A520
                  clear A520
                  obtain rfl := Option.some.inj H
                  go_wp2_with (first | ((with_reducible refine gate_callee (f := 20) rfl ?_); refine goesL_ (some 77) rfl rfl Try.func20 (by kernel_rfl) rfl #[.int .i64 a0, .int .i64 1] rfl (by (try simp only [List.map_toArray, List.map_cons, List.map_nil]); first | done | rfl | (simp only [List.length_drop, List.length_take]; rfl)) ?_; (with_reducible refine (digits_Mul.calls kj6 a0 1 t182 true _ A17.out).mono ?_); rintro e w' ⟨rfl, ⟨nd, rfl⟩⟩; refine ⟨_, rfl, ?_⟩) | ((with_reducible refine gate_callee (f := 18) rfl ?_); refine goesL_ (some 82) rfl rfl Try.func18 (by kernel_rfl) rfl #[.int .i64 a0, .int .i64 0] rfl (by (try simp only [List.map_toArray, List.map_cons, List.map_nil]); first | done | rfl | (simp only [List.length_drop, List.length_take]; rfl)) ?_; (with_reducible refine (digits_Add.calls a0 0 t184 true _ A18.out).mono ?_); rintro e w' ⟨rfl, ⟨nd, rfl⟩⟩; refine ⟨_, rfl, ?_⟩) | (go_at_call 17; (with_reducible refine (horariumlaw01_heads.calls kj6  t193 _ A52.out).mono ?_); rintro e w53 ⟨rfl, hb⟩; have n0_ := Aside0.mk (below_step (by repeat (first | (with_reducible first | exact HB.out | apply below_alloc | apply pw_below_drewN | apply below_drew1) | exact HB.out)) hb); clear HB; have HB := n0_; clear n0_; (try clear hb); (try clear hb2); (try clear hk); (try clear hi)))
                  go_ret
                  exact ⟨by first | rfl | (simp [errW_none, errW_some] <;> rfl) | (simp [*, errW_none, errW_some] <;> rfl), by repeat (first | (with_reducible first | exact HB.out | apply below_alloc | apply pw_below_drewN | apply below_drew1) | exact HB.out)⟩
              · replace c22 := Bool.eq_false_iff.mpr c22
                subst c22
                have H1 : (some false) = some r := by rw [if_neg (show ¬ (false = true) by decide)] at H; exact H
                clear H
                have H := H1
                clear H1
                obtain rfl := Option.some.inj H
                go_wp2_with (first | ((with_reducible refine gate_callee (f := 20) rfl ?_); refine goesL_ (some 77) rfl rfl Try.func20 (by kernel_rfl) rfl #[.int .i64 a0, .int .i64 1] rfl (by (try simp only [List.map_toArray, List.map_cons, List.map_nil]); first | done | rfl | (simp only [List.length_drop, List.length_take]; rfl)) ?_; (with_reducible refine (digits_Mul.calls kj6 a0 1 t182 true _ A17.out).mono ?_); rintro e w' ⟨rfl, ⟨nd, rfl⟩⟩; refine ⟨_, rfl, ?_⟩) | ((with_reducible refine gate_callee (f := 18) rfl ?_); refine goesL_ (some 82) rfl rfl Try.func18 (by kernel_rfl) rfl #[.int .i64 a0, .int .i64 0] rfl (by (try simp only [List.map_toArray, List.map_cons, List.map_nil]); first | done | rfl | (simp only [List.length_drop, List.length_take]; rfl)) ?_; (with_reducible refine (digits_Add.calls a0 0 t184 false _ A18.out).mono ?_); rintro e w' ⟨rfl, ⟨nd, rfl⟩⟩; refine ⟨_, rfl, ?_⟩))
                go_ret
                exact ⟨by first | rfl | (simp [errW_none, errW_some] <;> rfl) | (simp [*, errW_none, errW_some] <;> rfl), by repeat (first | (with_reducible first | exact HB.out | apply below_alloc | apply pw_below_drewN | apply below_drew1) | exact HB.out)⟩
            · rw [if_neg c21] at H
              have c21b0 : (t184 == a0) = false := beq_eq_false_iff_ne.mpr c21
              have c21b1 : (t184 != a0) = true := bne_iff_ne.mpr c21
              obtain rfl := Option.some.inj H
              go_wp2_with (first | ((with_reducible refine gate_callee (f := 20) rfl ?_); refine goesL_ (some 77) rfl rfl Try.func20 (by kernel_rfl) rfl #[.int .i64 a0, .int .i64 1] rfl (by (try simp only [List.map_toArray, List.map_cons, List.map_nil]); first | done | rfl | (simp only [List.length_drop, List.length_take]; rfl)) ?_; (with_reducible refine (digits_Mul.calls kj6 a0 1 t182 true _ A17.out).mono ?_); rintro e w' ⟨rfl, ⟨nd, rfl⟩⟩; refine ⟨_, rfl, ?_⟩) | ((with_reducible refine gate_callee (f := 18) rfl ?_); refine goesL_ (some 82) rfl rfl Try.func18 (by kernel_rfl) rfl #[.int .i64 a0, .int .i64 0] rfl (by (try simp only [List.map_toArray, List.map_cons, List.map_nil]); first | done | rfl | (simp only [List.length_drop, List.length_take]; rfl)) ?_; (with_reducible refine (digits_Add.calls a0 0 t184 t185 _ A18.out).mono ?_); rintro e w' ⟨rfl, ⟨nd, rfl⟩⟩; refine ⟨_, rfl, ?_⟩))
              go_ret
              exact ⟨by first | rfl | (simp [errW_none, errW_some] <;> rfl) | (simp [*, errW_none, errW_some] <;> rfl), by repeat (first | (with_reducible first | exact HB.out | apply below_alloc | apply pw_below_drewN | apply below_drew1) | exact HB.out)⟩
          · replace c20 := Bool.eq_false_iff.mpr c20
            subst c20
            have H1 : (some false) = some r := by rw [if_neg (show ¬ (false = true) by decide)] at H; exact H
            clear H
            have H := H1
            clear H1
            obtain rfl := Option.some.inj H
            go_wp2_with (first | ((with_reducible refine gate_callee (f := 20) rfl ?_); refine goesL_ (some 77) rfl rfl Try.func20 (by kernel_rfl) rfl #[.int .i64 a0, .int .i64 1] rfl (by (try simp only [List.map_toArray, List.map_cons, List.map_nil]); first | done | rfl | (simp only [List.length_drop, List.length_take]; rfl)) ?_; (with_reducible refine (digits_Mul.calls kj6 a0 1 t182 false _ A17.out).mono ?_); rintro e w' ⟨rfl, ⟨nd, rfl⟩⟩; refine ⟨_, rfl, ?_⟩) | ((with_reducible refine gate_callee (f := 18) rfl ?_); refine goesL_ (some 82) rfl rfl Try.func18 (by kernel_rfl) rfl #[.int .i64 a0, .int .i64 0] rfl (by (try simp only [List.map_toArray, List.map_cons, List.map_nil]); first | done | rfl | (simp only [List.length_drop, List.length_take]; rfl)) ?_; (with_reducible refine (digits_Add.calls a0 0 t184 t185 _ A18.out).mono ?_); rintro e w' ⟨rfl, ⟨nd, rfl⟩⟩; refine ⟨_, rfl, ?_⟩))
            go_ret
            exact ⟨by first | rfl | (simp [errW_none, errW_some] <;> rfl) | (simp [*, errW_none, errW_some] <;> rfl), by repeat (first | (with_reducible first | exact HB.out | apply below_alloc | apply pw_below_drewN | apply below_drew1) | exact HB.out)⟩
        · rw [if_neg c19] at H
          have c19b0 : (t182 == a0) = false := beq_eq_false_iff_ne.mpr c19
          have c19b1 : (t182 != a0) = true := bne_iff_ne.mpr c19
          obtain rfl := Option.some.inj H
          go_wp2_with (first | ((with_reducible refine gate_callee (f := 20) rfl ?_); refine goesL_ (some 77) rfl rfl Try.func20 (by kernel_rfl) rfl #[.int .i64 a0, .int .i64 1] rfl (by (try simp only [List.map_toArray, List.map_cons, List.map_nil]); first | done | rfl | (simp only [List.length_drop, List.length_take]; rfl)) ?_; (with_reducible refine (digits_Mul.calls kj6 a0 1 t182 t183 _ A17.out).mono ?_); rintro e w' ⟨rfl, ⟨nd, rfl⟩⟩; refine ⟨_, rfl, ?_⟩) | ((with_reducible refine gate_callee (f := 18) rfl ?_); refine goesL_ (some 82) rfl rfl Try.func18 (by kernel_rfl) rfl #[.int .i64 a0, .int .i64 0] rfl (by (try simp only [List.map_toArray, List.map_cons, List.map_nil]); first | done | rfl | (simp only [List.length_drop, List.length_take]; rfl)) ?_; (with_reducible refine (digits_Add.calls a0 0 t184 t185 _ A18.out).mono ?_); rintro e w' ⟨rfl, ⟨nd, rfl⟩⟩; refine ⟨_, rfl, ?_⟩))
          go_ret
          exact ⟨by first | rfl | (simp [errW_none, errW_some] <;> rfl) | (simp [*, errW_none, errW_some] <;> rfl), by repeat (first | (with_reducible first | exact HB.out | apply below_alloc | apply pw_below_drewN | apply below_drew1) | exact HB.out)⟩

/-- THE ONE PURE STATEMENT of horariumlaw01_DigitsRing: yours. -/
def horariumlaw01_DigitsRing.Pure : Prop := ∀ (a0 : Int) (a1 : Int), (Lit.int .i64 a0).wf = true → (Lit.int .i64 a1).wf = true → ∃ k, horariumlaw01_DigitsRing.f k a0 a1 = some true
theorem horariumlaw01_DigitsRing.walk (P : horariumlaw01_DigitsRing.Pure) (a0 : Int) (a1 : Int) (w : World) (w0 : (Lit.int .i64 a0).wf = true) (w1 : (Lit.int .i64 a1).wf = true) :
    Calls Try.prog 7 #[.int .i64 a0, .int .i64 a1] w fun e w' => e = .returned (.bool true) ∧ Below w.heap.size w w' := by
  obtain ⟨k, h⟩ := P a0 a1 w0 w1
  refine (horariumlaw01_DigitsRing.calls k a0 a1 true w h).mono ?_
  rintro e w' ⟨rfl, hd⟩
  exact ⟨rfl, hd⟩

/-! ### digits_Within: function 22 -/
def digits_Within.f (k : Nat) (a0 : ByteArray) (a1 : Int) (a2 : Int) : Option (Int × Int) := (digits_Parse.f k a0).bind fun bt194 => (if bt194.2 = 0 then (if bt194.1 < a1 then (some (0, 6)) else (if bt194.1 > a2 then (some (0, 6)) else (some (bt194.1, 0)))) else (some (0, bt194.2)))
theorem digits_Within.mono : ∀ a0 a1 a2 k, LeO (digits_Within.f k a0 a1 a2) (digits_Within.f (k + 1) a0 a1 a2) := by
  intro a0 a1 a2 k
  unfold digits_Within.f
  repeat' first
      | (with_reducible exact digits_Parse.mono _ _)
      | (with_reducible exact LeO.refl _)
      | (with_reducible exact LeO.none _)
      | (with_reducible refine LeO.ite ?_ ?_)
      | (with_reducible refine LeO.bind ?_ (fun _ => ?_))
      | exact digits_Parse.mono _ _
      | exact LeO.none _
      | refine LeO.ite ?_ ?_
      | refine LeO.bind ?_ (fun _ => ?_)
set_option maxHeartbeats 8000000 in
set_option maxRecDepth 100000 in
theorem digits_Within.calls (k : Nat) (a0 : ByteArray) (a1 : Int) (a2 : Int) (r1 : Int) (r2 : Int) (w : World) (h : digits_Within.f k a0 a1 a2 = some (r1, r2)) :
    Calls Try.prog 22 #[.string a0, .int .i64 a1, .int .i64 a2] w fun e w' => e = .returned (.tuple #[.int .i64 r1, .int .i64 r2]) ∧ Drawn0 w w' := by
  have H : ((digits_Parse.f k a0).bind fun bt194 => (if bt194.2 = 0 then (if bt194.1 < a1 then (some (0, 6)) else (if bt194.1 > a2 then (some (0, 6)) else (some (bt194.1, 0)))) else (some (0, bt194.2)))) = some (r1, r2) := h
  clear h
  replace H := Option.bind_eq_some_iff.mp H
  obtain ⟨⟨t194, t195⟩, A40, H⟩ := H
  replace H : (if t195 = 0 then (if t194 < a1 then (some (0, 6)) else (if t194 > a2 then (some (0, 6)) else (some (t194, 0)))) else (some (0, t195))) = some (r1, r2) := H
  have A4 := Aside0.mk A40
  clear A40
  by_cases c5 : t195 = 0
  · rw [if_pos c5] at H
    have c5b0 : (t195 == 0) = true := beq_iff_eq.mpr c5
    have c5b1 : (t195 != 0) = false := bne_eq_false_iff_eq.mpr c5
    clear c5
    by_cases c6 : t194 < a1
    · rw [if_pos c6] at H
      have c6b0 : decide (t194 < a1) = true := decide_eq_true c6
      clear c6
      simp only [Option.some.injEq, Prod.mk.injEq] at H
      obtain ⟨rfl, rfl⟩ := H
      go_enter Try.func22, Try.ntmps22
      go_wp2_with (first | ((with_reducible refine gate_callee (f := 9) rfl ?_); refine goesL_ (some 12) rfl rfl Try.func9 (by kernel_rfl) rfl #[.string a0] rfl (by (try simp only [List.map_toArray, List.map_cons, List.map_nil]); first | done | rfl | (simp only [List.length_drop, List.length_take]; rfl)) ?_; (with_reducible refine (digits_Parse.calls k a0 t194 t195 _ A4.out).mono ?_); rintro e w' ⟨rfl, ⟨nd, rfl⟩⟩; refine ⟨_, rfl, ?_⟩))
      go_ret2
      exact ⟨by first | rfl | (simp; done) | (simp [*]; done), by repeat (first | exact Drawn0.refl _ | apply Drawn0.step)⟩
    · rw [if_neg c6] at H
      have c6b0 : decide (t194 < a1) = false := decide_eq_false c6
      clear c6
      by_cases c7 : t194 > a2
      · rw [if_pos c7] at H
        have c7b0 : decide (a2 < t194) = true := decide_eq_true c7
        clear c7
        simp only [Option.some.injEq, Prod.mk.injEq] at H
        obtain ⟨rfl, rfl⟩ := H
        go_enter Try.func22, Try.ntmps22
        go_wp2_with (first | ((with_reducible refine gate_callee (f := 9) rfl ?_); refine goesL_ (some 12) rfl rfl Try.func9 (by kernel_rfl) rfl #[.string a0] rfl (by (try simp only [List.map_toArray, List.map_cons, List.map_nil]); first | done | rfl | (simp only [List.length_drop, List.length_take]; rfl)) ?_; (with_reducible refine (digits_Parse.calls k a0 t194 t195 _ A4.out).mono ?_); rintro e w' ⟨rfl, ⟨nd, rfl⟩⟩; refine ⟨_, rfl, ?_⟩))
        go_ret2
        exact ⟨by first | rfl | (simp; done) | (simp [*]; done), by repeat (first | exact Drawn0.refl _ | apply Drawn0.step)⟩
      · rw [if_neg c7] at H
        have c7b0 : decide (a2 < t194) = false := decide_eq_false c7
        clear c7
        simp only [Option.some.injEq, Prod.mk.injEq] at H
        obtain ⟨rfl, rfl⟩ := H
        go_enter Try.func22, Try.ntmps22
        go_wp2_with (first | ((with_reducible refine gate_callee (f := 9) rfl ?_); refine goesL_ (some 12) rfl rfl Try.func9 (by kernel_rfl) rfl #[.string a0] rfl (by (try simp only [List.map_toArray, List.map_cons, List.map_nil]); first | done | rfl | (simp only [List.length_drop, List.length_take]; rfl)) ?_; (with_reducible refine (digits_Parse.calls k a0 t194 t195 _ A4.out).mono ?_); rintro e w' ⟨rfl, ⟨nd, rfl⟩⟩; refine ⟨_, rfl, ?_⟩))
        go_ret2
        exact ⟨by first | rfl | (simp; done) | (simp [*]; done), by repeat (first | exact Drawn0.refl _ | apply Drawn0.step)⟩
  · rw [if_neg c5] at H
    have c5b0 : (t195 == 0) = false := beq_eq_false_iff_ne.mpr c5
    have c5b1 : (t195 != 0) = true := bne_iff_ne.mpr c5
    simp only [Option.some.injEq, Prod.mk.injEq] at H
    obtain ⟨rfl, rfl⟩ := H
    go_enter Try.func22, Try.ntmps22
    go_wp2_with (first | ((with_reducible refine gate_callee (f := 9) rfl ?_); refine goesL_ (some 12) rfl rfl Try.func9 (by kernel_rfl) rfl #[.string a0] rfl (by (try simp only [List.map_toArray, List.map_cons, List.map_nil]); first | done | rfl | (simp only [List.length_drop, List.length_take]; rfl)) ?_; (with_reducible refine (digits_Parse.calls k a0 t194 t195 _ A4.out).mono ?_); rintro e w' ⟨rfl, ⟨nd, rfl⟩⟩; refine ⟨_, rfl, ?_⟩))
    go_ret2
    exact ⟨by first | rfl | (simp; done) | (simp [*]; done), by repeat (first | exact Drawn0.refl _ | apply Drawn0.step)⟩

/-! ### horariumref01_Within: function 23 -/
def horariumref01_Within.f (k : Nat) (a0 : ByteArray) (a1 : Int) (a2 : Int) : Option (Int × Int) := (horariumref01_Parse.f k a0).bind fun bt196 => (if bt196.2 = 0 then (if bt196.1 < a1 then (some (0, 6)) else (if bt196.1 > a2 then (some (0, 6)) else (some (bt196.1, bt196.2)))) else (some (bt196.1, bt196.2)))
theorem horariumref01_Within.mono : ∀ a0 a1 a2 k, LeO (horariumref01_Within.f k a0 a1 a2) (horariumref01_Within.f (k + 1) a0 a1 a2) := by
  intro a0 a1 a2 k
  unfold horariumref01_Within.f
  repeat' first
      | (with_reducible exact horariumref01_Parse.mono _ _)
      | (with_reducible exact LeO.refl _)
      | (with_reducible exact LeO.none _)
      | (with_reducible refine LeO.ite ?_ ?_)
      | (with_reducible refine LeO.bind ?_ (fun _ => ?_))
      | exact horariumref01_Parse.mono _ _
      | exact LeO.none _
      | refine LeO.ite ?_ ?_
      | refine LeO.bind ?_ (fun _ => ?_)
set_option maxHeartbeats 8000000 in
set_option maxRecDepth 100000 in
theorem horariumref01_Within.calls (k : Nat) (a0 : ByteArray) (a1 : Int) (a2 : Int) (r1 : Int) (r2 : Int) (w : World) (h : horariumref01_Within.f k a0 a1 a2 = some (r1, r2)) :
    Calls Try.prog 23 #[.string a0, .int .i64 a1, .int .i64 a2] w fun e w' => e = .returned (.tuple #[.int .i64 r1, .int .i64 r2]) ∧ Drawn0 w w' := by
  have H : ((horariumref01_Parse.f k a0).bind fun bt196 => (if bt196.2 = 0 then (if bt196.1 < a1 then (some (0, 6)) else (if bt196.1 > a2 then (some (0, 6)) else (some (bt196.1, bt196.2)))) else (some (bt196.1, bt196.2)))) = some (r1, r2) := h
  clear h
  replace H := Option.bind_eq_some_iff.mp H
  obtain ⟨⟨t196, t197⟩, A40, H⟩ := H
  replace H : (if t197 = 0 then (if t196 < a1 then (some (0, 6)) else (if t196 > a2 then (some (0, 6)) else (some (t196, t197)))) else (some (t196, t197))) = some (r1, r2) := H
  have A4 := Aside0.mk A40
  clear A40
  by_cases c5 : t197 = 0
  · rw [if_pos c5] at H
    have c5b0 : (t197 == 0) = true := beq_iff_eq.mpr c5
    have c5b1 : (t197 != 0) = false := bne_eq_false_iff_eq.mpr c5
    clear c5
    by_cases c6 : t196 < a1
    · rw [if_pos c6] at H
      have c6b0 : decide (t196 < a1) = true := decide_eq_true c6
      clear c6
      simp only [Option.some.injEq, Prod.mk.injEq] at H
      obtain ⟨rfl, rfl⟩ := H
      go_enter Try.func23, Try.ntmps23
      go_wp2_with (first | ((with_reducible refine gate_callee (f := 10) rfl ?_); refine goesL_ (some 12) rfl rfl Try.func10 (by kernel_rfl) rfl #[.string a0] rfl (by (try simp only [List.map_toArray, List.map_cons, List.map_nil]); first | done | rfl | (simp only [List.length_drop, List.length_take]; rfl)) ?_; (with_reducible refine (horariumref01_Parse.calls k a0 t196 t197 _ A4.out).mono ?_); rintro e w' ⟨rfl, ⟨nd, rfl⟩⟩; refine ⟨_, rfl, ?_⟩))
      go_ret2
      exact ⟨by first | rfl | (simp; done) | (simp [*]; done), by repeat (first | exact Drawn0.refl _ | apply Drawn0.step)⟩
    · rw [if_neg c6] at H
      have c6b0 : decide (t196 < a1) = false := decide_eq_false c6
      clear c6
      by_cases c7 : t196 > a2
      · rw [if_pos c7] at H
        have c7b0 : decide (a2 < t196) = true := decide_eq_true c7
        clear c7
        simp only [Option.some.injEq, Prod.mk.injEq] at H
        obtain ⟨rfl, rfl⟩ := H
        go_enter Try.func23, Try.ntmps23
        go_wp2_with (first | ((with_reducible refine gate_callee (f := 10) rfl ?_); refine goesL_ (some 12) rfl rfl Try.func10 (by kernel_rfl) rfl #[.string a0] rfl (by (try simp only [List.map_toArray, List.map_cons, List.map_nil]); first | done | rfl | (simp only [List.length_drop, List.length_take]; rfl)) ?_; (with_reducible refine (horariumref01_Parse.calls k a0 t196 t197 _ A4.out).mono ?_); rintro e w' ⟨rfl, ⟨nd, rfl⟩⟩; refine ⟨_, rfl, ?_⟩))
        go_ret2
        exact ⟨by first | rfl | (simp; done) | (simp [*]; done), by repeat (first | exact Drawn0.refl _ | apply Drawn0.step)⟩
      · rw [if_neg c7] at H
        have c7b0 : decide (a2 < t196) = false := decide_eq_false c7
        clear c7
        simp only [Option.some.injEq, Prod.mk.injEq] at H
        obtain ⟨rfl, rfl⟩ := H
        go_enter Try.func23, Try.ntmps23
        go_wp2_with (first | ((with_reducible refine gate_callee (f := 10) rfl ?_); refine goesL_ (some 12) rfl rfl Try.func10 (by kernel_rfl) rfl #[.string a0] rfl (by (try simp only [List.map_toArray, List.map_cons, List.map_nil]); first | done | rfl | (simp only [List.length_drop, List.length_take]; rfl)) ?_; (with_reducible refine (horariumref01_Parse.calls k a0 t196 t197 _ A4.out).mono ?_); rintro e w' ⟨rfl, ⟨nd, rfl⟩⟩; refine ⟨_, rfl, ?_⟩))
        go_ret2
        exact ⟨by first | rfl | (simp; done) | (simp [*]; done), by repeat (first | exact Drawn0.refl _ | apply Drawn0.step)⟩
  · rw [if_neg c5] at H
    have c5b0 : (t197 == 0) = false := beq_eq_false_iff_ne.mpr c5
    have c5b1 : (t197 != 0) = true := bne_iff_ne.mpr c5
    simp only [Option.some.injEq, Prod.mk.injEq] at H
    obtain ⟨rfl, rfl⟩ := H
    go_enter Try.func23, Try.ntmps23
    go_wp2_with (first | ((with_reducible refine gate_callee (f := 10) rfl ?_); refine goesL_ (some 12) rfl rfl Try.func10 (by kernel_rfl) rfl #[.string a0] rfl (by (try simp only [List.map_toArray, List.map_cons, List.map_nil]); first | done | rfl | (simp only [List.length_drop, List.length_take]; rfl)) ?_; (with_reducible refine (horariumref01_Parse.calls k a0 t196 t197 _ A4.out).mono ?_); rintro e w' ⟨rfl, ⟨nd, rfl⟩⟩; refine ⟨_, rfl, ?_⟩))
    go_ret2
    exact ⟨by first | rfl | (simp; done) | (simp [*]; done), by repeat (first | exact Drawn0.refl _ | apply Drawn0.step)⟩

/-! ### horariumlaw01_DigitsWithin: function 8 -/
def horariumlaw01_DigitsWithin.f (k : Nat) (a0 : ByteArray) (a1 : Int) (a2 : Int) : Option (Bool) := (digits_Within.f k a0 a1 a2).bind fun bt198 => ((horariumref01_Within.f k a0 a1 a2).bind fun bt200 => (if bt198.1 = bt200.1 then (if bt198.2 = bt200.2 then ((horariumlaw01_heads.f k).bind fun t202 => (some t202)) else (some false)) else (some false)))
theorem horariumlaw01_DigitsWithin.mono : ∀ a0 a1 a2 k, LeO (horariumlaw01_DigitsWithin.f k a0 a1 a2) (horariumlaw01_DigitsWithin.f (k + 1) a0 a1 a2) := by
  intro a0 a1 a2 k
  unfold horariumlaw01_DigitsWithin.f
  repeat' first
      | (with_reducible exact digits_Within.mono _ _ _ _)
      | (with_reducible exact horariumlaw01_heads.mono _)
      | (with_reducible exact horariumref01_Within.mono _ _ _ _)
      | (with_reducible exact LeO.refl _)
      | (with_reducible exact LeO.none _)
      | (with_reducible refine LeO.ite ?_ ?_)
      | (with_reducible refine LeO.bind ?_ (fun _ => ?_))
      | exact digits_Within.mono _ _ _ _
      | exact horariumlaw01_heads.mono _
      | exact horariumref01_Within.mono _ _ _ _
      | exact LeO.none _
      | refine LeO.ite ?_ ?_
      | refine LeO.bind ?_ (fun _ => ?_)
set_option maxHeartbeats 8000000 in
set_option maxRecDepth 100000 in
theorem horariumlaw01_DigitsWithin.calls (k : Nat) (a0 : ByteArray) (a1 : Int) (a2 : Int) (r : Bool) (w : World) (h : horariumlaw01_DigitsWithin.f k a0 a1 a2 = some r) :
    Calls Try.prog 8 #[.string a0, .int .i64 a1, .int .i64 a2] w fun e w' => e = .returned (.bool r) ∧ Below w.heap.size w w' := by
  have HB := Aside0.mk (Below.refl w.heap.size w)
  have H : ((digits_Within.f k a0 a1 a2).bind fun bt198 => ((horariumref01_Within.f k a0 a1 a2).bind fun bt200 => (if bt198.1 = bt200.1 then (if bt198.2 = bt200.2 then ((horariumlaw01_heads.f k).bind fun t202 => (some t202)) else (some false)) else (some false)))) = some r := h
  clear h
  replace H := Option.bind_eq_some_iff.mp H
  obtain ⟨⟨t198, t199⟩, A40, H⟩ := H
  replace H : ((horariumref01_Within.f k a0 a1 a2).bind fun bt200 => (if t198 = bt200.1 then (if t199 = bt200.2 then ((horariumlaw01_heads.f k).bind fun t202 => (some t202)) else (some false)) else (some false))) = some r := H
  have A4 := Aside0.mk A40
  clear A40
  replace H := Option.bind_eq_some_iff.mp H
  obtain ⟨⟨t200, t201⟩, A50, H⟩ := H
  replace H : (if t198 = t200 then (if t199 = t201 then ((horariumlaw01_heads.f k).bind fun t202 => (some t202)) else (some false)) else (some false)) = some r := H
  have A5 := Aside0.mk A50
  clear A50
  by_cases c6 : t198 = t200
  · rw [if_pos c6] at H
    have c6b0 : (t198 == t200) = true := beq_iff_eq.mpr c6
    have c6b1 : (t198 != t200) = false := bne_eq_false_iff_eq.mpr c6
    clear c6
    by_cases c7 : t199 = t201
    · rw [if_pos c7] at H
      have c7b0 : (t199 == t201) = true := beq_iff_eq.mpr c7
      have c7b1 : (t199 != t201) = false := bne_eq_false_iff_eq.mpr c7
      clear c7
      replace H := Option.bind_eq_some_iff.mp H
      obtain ⟨t202, A80, H⟩ := H
      replace H : (some t202) = some r := H
      have A8 := Aside0.mk A80
      clear A80
      obtain rfl := Option.some.inj H
      go_enter Try.func8, Try.ntmps8
      go_wp2_with (first | ((with_reducible refine gate_callee (f := 22) rfl ?_); refine goesL_ (some 15) rfl rfl Try.func22 (by kernel_rfl) rfl #[.string a0, .int .i64 a1, .int .i64 a2] rfl (by (try simp only [List.map_toArray, List.map_cons, List.map_nil]); first | done | rfl | (simp only [List.length_drop, List.length_take]; rfl)) ?_; (with_reducible refine (digits_Within.calls k a0 a1 a2 t198 t199 _ A4.out).mono ?_); rintro e w' ⟨rfl, ⟨nd, rfl⟩⟩; refine ⟨_, rfl, ?_⟩) | ((with_reducible refine gate_callee (f := 23) rfl ?_); refine goesL_ (some 22) rfl rfl Try.func23 (by kernel_rfl) rfl #[.string a0, .int .i64 a1, .int .i64 a2] rfl (by (try simp only [List.map_toArray, List.map_cons, List.map_nil]); first | done | rfl | (simp only [List.length_drop, List.length_take]; rfl)) ?_; (with_reducible refine (horariumref01_Within.calls k a0 a1 a2 t200 t201 _ A5.out).mono ?_); rintro e w' ⟨rfl, ⟨nd, rfl⟩⟩; refine ⟨_, rfl, ?_⟩) | (go_at_call 17; (with_reducible refine (horariumlaw01_heads.calls k  t202 _ A8.out).mono ?_); rintro e w9 ⟨rfl, hb⟩; have n0_ := Aside0.mk (below_step (by repeat (first | (with_reducible first | exact HB.out | apply below_alloc | apply pw_below_drewN | apply below_drew1) | exact HB.out)) hb); clear HB; have HB := n0_; clear n0_; (try clear hb); (try clear hb2); (try clear hk); (try clear hi)))
      go_ret
      exact ⟨by first | rfl | (simp [errW_none, errW_some] <;> rfl) | (simp [*, errW_none, errW_some] <;> rfl), by repeat (first | (with_reducible first | exact HB.out | apply below_alloc | apply pw_below_drewN | apply below_drew1) | exact HB.out)⟩
    · rw [if_neg c7] at H
      have c7b0 : (t199 == t201) = false := beq_eq_false_iff_ne.mpr c7
      have c7b1 : (t199 != t201) = true := bne_iff_ne.mpr c7
      obtain rfl := Option.some.inj H
      go_enter Try.func8, Try.ntmps8
      go_wp2_with (first | ((with_reducible refine gate_callee (f := 22) rfl ?_); refine goesL_ (some 15) rfl rfl Try.func22 (by kernel_rfl) rfl #[.string a0, .int .i64 a1, .int .i64 a2] rfl (by (try simp only [List.map_toArray, List.map_cons, List.map_nil]); first | done | rfl | (simp only [List.length_drop, List.length_take]; rfl)) ?_; (with_reducible refine (digits_Within.calls k a0 a1 a2 t198 t199 _ A4.out).mono ?_); rintro e w' ⟨rfl, ⟨nd, rfl⟩⟩; refine ⟨_, rfl, ?_⟩) | ((with_reducible refine gate_callee (f := 23) rfl ?_); refine goesL_ (some 22) rfl rfl Try.func23 (by kernel_rfl) rfl #[.string a0, .int .i64 a1, .int .i64 a2] rfl (by (try simp only [List.map_toArray, List.map_cons, List.map_nil]); first | done | rfl | (simp only [List.length_drop, List.length_take]; rfl)) ?_; (with_reducible refine (horariumref01_Within.calls k a0 a1 a2 t200 t201 _ A5.out).mono ?_); rintro e w' ⟨rfl, ⟨nd, rfl⟩⟩; refine ⟨_, rfl, ?_⟩))
      go_ret
      exact ⟨by first | rfl | (simp [errW_none, errW_some] <;> rfl) | (simp [*, errW_none, errW_some] <;> rfl), by repeat (first | (with_reducible first | exact HB.out | apply below_alloc | apply pw_below_drewN | apply below_drew1) | exact HB.out)⟩
  · rw [if_neg c6] at H
    have c6b0 : (t198 == t200) = false := beq_eq_false_iff_ne.mpr c6
    have c6b1 : (t198 != t200) = true := bne_iff_ne.mpr c6
    obtain rfl := Option.some.inj H
    go_enter Try.func8, Try.ntmps8
    go_wp2_with (first | ((with_reducible refine gate_callee (f := 22) rfl ?_); refine goesL_ (some 15) rfl rfl Try.func22 (by kernel_rfl) rfl #[.string a0, .int .i64 a1, .int .i64 a2] rfl (by (try simp only [List.map_toArray, List.map_cons, List.map_nil]); first | done | rfl | (simp only [List.length_drop, List.length_take]; rfl)) ?_; (with_reducible refine (digits_Within.calls k a0 a1 a2 t198 t199 _ A4.out).mono ?_); rintro e w' ⟨rfl, ⟨nd, rfl⟩⟩; refine ⟨_, rfl, ?_⟩) | ((with_reducible refine gate_callee (f := 23) rfl ?_); refine goesL_ (some 22) rfl rfl Try.func23 (by kernel_rfl) rfl #[.string a0, .int .i64 a1, .int .i64 a2] rfl (by (try simp only [List.map_toArray, List.map_cons, List.map_nil]); first | done | rfl | (simp only [List.length_drop, List.length_take]; rfl)) ?_; (with_reducible refine (horariumref01_Within.calls k a0 a1 a2 t200 t201 _ A5.out).mono ?_); rintro e w' ⟨rfl, ⟨nd, rfl⟩⟩; refine ⟨_, rfl, ?_⟩))
    go_ret
    exact ⟨by first | rfl | (simp [errW_none, errW_some] <;> rfl) | (simp [*, errW_none, errW_some] <;> rfl), by repeat (first | (with_reducible first | exact HB.out | apply below_alloc | apply pw_below_drewN | apply below_drew1) | exact HB.out)⟩

/-- THE ONE PURE STATEMENT of horariumlaw01_DigitsWithin: yours. -/
def horariumlaw01_DigitsWithin.Pure : Prop := ∀ (a0 : ByteArray) (a1 : Int) (a2 : Int), a0.size ≤ 140737488351232 → (Lit.int .i64 a1).wf = true → (Lit.int .i64 a2).wf = true → ∃ k, horariumlaw01_DigitsWithin.f k a0 a1 a2 = some true
theorem horariumlaw01_DigitsWithin.walk (P : horariumlaw01_DigitsWithin.Pure) (a0 : ByteArray) (a1 : Int) (a2 : Int) (w : World) (w0 : a0.size ≤ 140737488351232) (w1 : (Lit.int .i64 a1).wf = true) (w2 : (Lit.int .i64 a2).wf = true) :
    Calls Try.prog 8 #[.string a0, .int .i64 a1, .int .i64 a2] w fun e w' => e = .returned (.bool true) ∧ Below w.heap.size w w' := by
  obtain ⟨k, h⟩ := P a0 a1 a2 w0 w1 w2
  refine (horariumlaw01_DigitsWithin.calls k a0 a1 a2 true w h).mono ?_
  rintro e w' ⟨rfl, hd⟩
  exact ⟨rfl, hd⟩

end Go.Proofs.Ytbkdmmmgffpbeaa.Q
