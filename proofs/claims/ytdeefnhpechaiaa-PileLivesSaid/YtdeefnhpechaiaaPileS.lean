/- The reference's functions of layer 7, called beside a pile: what they answer, and that they leave the pile as it was. -/
import Derived.Test.YtdeefnhpechaiaaPileR
namespace Go.Proofs.Ytdeefnhpechaiaa.PileS
set_option linter.unusedVariables false
open Go.RowKit Go.Maps Go.Proofs.YtdeefnhpechaiaaW.PrintWords Go.Proofs.YtdeefnhpechaiaaW.PrintLast Go.Proofs.YtdeefnhpechaiaaW.PrintMore Go.Proofs.Ytdeefnhpechaiaa.PileP Go.Proofs.Ytdeefnhpechaiaa.PileC Go.Proofs.Ytdeefnhpechaiaa.PileD Go.Proofs.Ytdeefnhpechaiaa.PileE Go.Proofs.Ytdeefnhpechaiaa.PileF Go.Proofs.Ytdeefnhpechaiaa.PileG Go.Proofs.Ytdeefnhpechaiaa.PileH Go.Proofs.Ytdeefnhpechaiaa.PileI Go.Proofs.Ytdeefnhpechaiaa.PileJ Go.Proofs.Ytdeefnhpechaiaa.PileK Go.Proofs.Ytdeefnhpechaiaa.PileM Go.Proofs.Ytdeefnhpechaiaa.PileR Go.Proofs.Ytdeefnhpechaiaa.Q
/-- the blocks that hold rows of the reference -/
def T38 (W : World) (k : Nat) : Prop := k < W.heap.size ∧ ∃ cells, W.heap[k]? = some (.cells cells 38 (0, 0))
theorem R_T38 {W : World} {b : Nat} {v : Value} {q : List S38} (hR : Kd.R k38 38 W b (fun _ => True) v q) : Kd.R k38 38 W b (T38 W) v q :=
  Kd.R_mono (Kd.R_bound hR) fun k hk => by
    obtain ⟨_, _, hlt, q, hq, cells, hc⟩ := hk
    obtain rfl := types38 hq
    exact ⟨hlt, cells, hc⟩
theorem not38 {W : World} {B g K : Nat} {m : List It} {F : Nat → Prop} (h : Is W B g m K F) : ∀ k, F k → ¬ T38 W k := by
  obtain ⟨l, ⟨look, h, _⟩, _⟩ := h
  obtain ⟨vv, bb, D, h1, h2, ⟨es, ck, hb, _⟩, h4, h5, h6, h7, rfl⟩ := h
  rintro k hk ⟨hlt, cells, hc⟩
  rcases hk with rfl | rfl | e
  · rw [h1] at hc; injection hc with hc; injection hc with _ hc; cases hc
  · rw [hb] at hc; cases hc
  · obtain ⟨cells', hc'⟩ := own_typed h2 k e.symm
    rw [hc'] at hc; injection hc with hc; injection hc with _ hc; cases hc
/-- A row of the reference, of the call's own. -/
def RR (w W : World) (A : Option Addr) (c : Nat) (l : List It) : Prop := Kd.R k38 38 W w.heap.size (fun _ => True) (.slice A l.length c) (l.map mk38)
theorem RR.cells {w W : World} {A : Option Addr} {c : Nat} {l : List It} (h : RR w W A c l) : l.length ≤ c ∧ Kd.C k38 W A (l.map mk38).length (l.map mk38) := by
  obtain ⟨_, h1, h2⟩ := Kd.R_reads' h
  exact ⟨h1, h2⟩
theorem RR.of {w W : World} {v : Value} {l : List It} {ok : Nat → Prop} {b : Nat} (h : Kd.R k38 38 W b ok v (l.map mk38)) (hb : w.heap.size ≤ b) : ∃ A c, v = .slice A l.length c ∧ RR w W A c l := by
  obtain ⟨A, c, rfl⟩ := Kd.R_slice h
  rw [lenm] at h ⊢
  exact ⟨A, c, rfl, Kd.R_lower (Kd.R_mono h (fun _ _ => trivial)) hb⟩
theorem RR.below {w W W1 : World} {A : Option Addr} {c : Nat} {l : List It} (h : RR w W A c l) (hb : Below W.heap.size W W1) : RR w W1 A c l := Kd.R_below h hb
theorem RR.turn {w W W1 : World} {A : Option Addr} {c B g K : Nat} {l m : List It} {F : Nat → Prop} (h : RR w W A c l) (hI : Is W B g m K F) (ht : Turn W W1 F) : RR w W1 A c l := hI.R38 h ht
/-- The row's item at a place. -/
theorem RR.at_ {w W : World} {A : Option Addr} {c : Nat} {l : List It} (h : RR w W A c l) (i : Nat) (x : It) (hx : l[i]? = some x) : ∃ ad, A = some ad ∧ W.cell? (ad.add (i * 2)) = some (.int .i64 x.1) ∧ W.cell? ⟨(ad.add (i * 2)).block, (ad.add (i * 2)).off + 1, none⟩ = some (.int .i64 x.2) := by
  have hi : i < l.length := (List.getElem?_eq_some_iff.1 hx).1
  obtain ⟨ad, hA, h1, h2⟩ := at_T38 h.cells.2 (i : Int) (by omega) (by rw [lenm]; omega)
  rw [rd38 l i x hx] at h1 h2
  simp only [Int.toNat_natCast] at h1 h2
  exact ⟨ad, hA, h1, h2⟩
theorem turn38 {w W W' : World} (hb : Below w.heap.size w W) (hb' : Below w.heap.size w W') (hk : Kept W W' (T38 W)) : Turn W W' (T38 W) :=
  ⟨hb'.os.trans hb.os.symm, hb'.tape.trans hb.tape.symm, hb'.output.trans hb.output.symm, hk.1, hk.2⟩
theorem Own.side {w W W1 : World} {g K : Nat} {m : List It} {F : Nat → Prop} (h : Own w W g m K F) (ht : Turn W W1 (T38 W)) (hb : Below w.heap.size w W1) : Own w W1 g m K F := ⟨h.is.other ht (not38 h.is), h.foot, hb⟩
theorem find_r (w W : World) (A : Option Addr) (c : Nat) (l : List It) (hl : l.length ≤ 1000) (hR : RR w W A c l) (key : Int) :
    Calls Try.prog 14 #[.slice A l.length c, .int .i64 key] W fun e w' => e = .returned (.int .i64 (placeI l key)) ∧ Drawn0 W w' := by
  obtain ⟨hc, hC⟩ := hR.cells
  obtain ⟨k, hk⟩ := (find_ev l (by omega) key).rounds
  have := horariumref07_Find.calls k A c (l.map mk38) key _ W hC (by rw [lenm]; exact hc) hk
  rw [lenm] at this
  exact this
theorem top_r (w W : World) (A : Option Addr) (c : Nat) (l : List It) (hl : l.length ≤ 1000) (hne : l ≠ []) (hR : RR w W A c l) :
    ∃ n : Nat, l[n]? = some (tp l) ∧ Calls Try.prog 21 #[.slice A l.length c] W fun e w' => e = .returned (.int .i64 (n : Int)) ∧ Drawn0 W w' := by
  obtain ⟨hc, hC⟩ := hR.cells
  obtain ⟨n, hn, he⟩ := top_ev l (by omega) hne
  obtain ⟨k, hk⟩ := he.rounds
  have := horariumref07_Top.calls k A c (l.map mk38) _ W hC (by rw [lenm]; exact hc) hk
  rw [lenm] at this
  exact ⟨n, hn, this⟩
theorem without_r (w W : World) (hW : w.heap.size ≤ W.heap.size) (A : Option Addr) (c : Nat) (l : List It) (hl : l.length ≤ 1000) (hR : RR w W A c l) (i : Nat) (hi : i < l.length) :
    Calls Try.prog 19 #[.slice A l.length c, .int .i64 (i : Int)] W fun e w' => ∃ (A' : Option Addr) (c' : Nat), e = .returned (.slice A' (l.eraseIdx i).length c') ∧ Hid (RR w w' A' c' (l.eraseIdx i)) ∧ Hid (Below W.heap.size W w') := by
  obtain ⟨hc, hC⟩ := hR.cells
  have := horariumref07_Without.calls A c (l.map mk38) (i : Int) _ W hC (by rw [lenm]; exact hc) (without_eq l (by omega) i hi)
  rw [lenm] at this
  refine this.mono ?_
  rintro e w' ⟨v', rfl, h1, h2⟩
  obtain ⟨A', c', rfl, h⟩ := RR.of (w := w) h1 hW
  exact ⟨A', c', rfl, h, h2⟩
theorem push_r (w W : World) (g : Nat) (l : List It) (hl : l.length ≤ 1000) (K : Nat) (F : Nat → Prop) (HO : Own w W g l K F) (A : Option Addr) (c : Nat) (hR : RR w W A c l) (key rank : Int) :
    Calls Try.prog 15 #[.slice A l.length c, .int .i64 key, .int .i64 rank] W fun e w' => ∃ (A' : Option Addr) (c' : Nat), e = .returned (.tuple #[.slice A' (if (find l key).isNone = true then l ++ [(key, rank)] else l).length c', .bool (find l key).isNone]) ∧ Hid (RR w w' A' c' (if (find l key).isNone = true then l ++ [(key, rank)] else l)) ∧ Hid (Own w w' g l K F) ∧ Hid (Turn W w' (T38 W)) := by
  obtain ⟨k, hk⟩ := (push_ev l HO.is.uniq (by omega) key rank).rounds
  refine (horariumref07_Push.calls k (T38 W) _ (l.map mk38) key rank _ _ w W HO.below (R_T38 hR) hk).mono ?_
  rintro e w' ⟨v', rfl, h1, h2, h3⟩
  have ht := turn38 HO.below h2 h3
  obtain ⟨A', c', rfl, h⟩ := RR.of (w := w) h1 (Nat.le_refl _)
  exact ⟨A', c', rfl, h, Own.side HO ht h2, ht⟩
theorem move_r (w W : World) (g : Nat) (l : List It) (hl : l.length ≤ 1000) (K : Nat) (F : Nat → Prop) (HO : Own w W g l K F) (A : Option Addr) (c : Nat) (hR : RR w W A c l) (key rank : Int) :
    Calls Try.prog 16 #[.slice A l.length c, .int .i64 key, .int .i64 rank] W fun e w' => ∃ (A' : Option Addr) (c' : Nat), e = .returned (.tuple #[.slice A' (if (find l key).isSome = true then but l key ++ [(key, rank)] else l).length c', .bool (find l key).isSome]) ∧ Hid (RR w w' A' c' (if (find l key).isSome = true then but l key ++ [(key, rank)] else l)) ∧ Hid (Own w w' g l K F) ∧ Hid (Turn W w' (T38 W)) := by
  obtain ⟨k, hk⟩ := (move_ev l HO.is.uniq (by omega) key rank).rounds
  refine (horariumref07_Move.calls k (T38 W) _ (l.map mk38) key rank _ _ w W HO.below (R_T38 hR) hk).mono ?_
  rintro e w' ⟨v', rfl, h1, h2, h3⟩
  have ht := turn38 HO.below h2 h3
  obtain ⟨A', c', rfl, h⟩ := RR.of (w := w) h1 (Nat.le_refl _)
  exact ⟨A', c', rfl, h, Own.side HO ht h2, ht⟩
/-- The law's own 'popped': what is on top is told, and taken off. -/
theorem popped_c (w W : World) (g : Nat) (l : List It) (hl : l.length ≤ 1000) (K : Nat) (hK : Hid (K + 5000 < maxLen)) (F : Nat → Prop) (HO : Own w W g l K F) (A : Option Addr) (c : Nat) (hR : RR w W A c l) :
    Calls Try.prog 20 #[.pointer (some ⟨g, 0, none⟩), .slice A l.length c] W fun e w' => e = .returned (.bool true) ∧ ∃ (K' : Nat), Hid (Own w w' g (l.erase (tp l)) K' F) ∧ K' ≤ K + 5000 ∧ Hid (RR w w' A c l) := by
  have HR := Lib.hid hR
  have Hu := Lib.hid HO.is.uniq
  clear hR
  go_enter Try.func20, Try.ntmps20
  go_wp2_with fail
  refine (peek_m W w.heap.size g l K F HO.is).mono ?_
  rintro e w1 ⟨rfl, ⟨n1, rfl⟩⟩
  have H1 := Lib.hid (HO.step (pw_below_drewN (Below.refl _ _) n1))
  have HR1 := Lib.hid (HR.out.below (pw_below_drewN (Below.refl _ _) n1))
  generalize W.drewN n1 = w1 at *
  clear HO HR
  go_wp2_with fail
  refine (pop_o w w1 g l hl K hK F H1.out).mono ?_
  rintro e w2 ⟨rfl, K2, H2, hK2, hT⟩
  have HR2 := Lib.hid (HR1.out.turn H1.out.is hT.out)
  clear HR1 hT H1
  by_cases hne : l = []
  · subst hne
    rw [show tp [] = (0, 0) from rfl, show decide (0 < ([] : List It).length) = false from rfl]
    go_wp2
    go_ret
    exact ⟨rfl, K2, H2.out, hK2, HR2.out⟩
  · have hl0 : 0 < l.length := List.length_pos_iff.2 hne
    have hd : decide (0 < l.length) = true := decide_eq_true hl0
    have hz : ((l.length : Int) == 0) = false := beq_eq_false_iff_ne.2 (by omega)
    obtain ⟨n, hn, hcall⟩ := top_r w w2 A c l hl hne HR2.out
    have Hn := Lib.hid hn
    have Hcall := Lib.hid hcall
    rw [hd]
    clear hn hcall hne
    generalize htp : tp l = t at *
    have Htp := Lib.hid htp
    clear htp
    go_wp2_with fail
    refine (Hcall.out).mono ?_
    rintro e w3 ⟨rfl, ⟨n3, rfl⟩⟩
    have HR3 := Lib.hid (HR2.out.below (pw_below_drewN (Below.refl _ _) n3))
    have H3 := Lib.hid (H2.out.step (pw_below_drewN (Below.refl _ _) n3))
    generalize w2.drewN n3 = w3 at *
    obtain ⟨ad, rfl, hc1, hc2⟩ := HR3.out.at_ n t Hn.out
    have hnl : (n : Int) < (l.length : Int) := by
      have := (List.getElem?_eq_some_iff.1 Hn.out).1
      omega
    have hu38 := Try.underlying38
    clear Hcall
    go_wp2
    go_ret
    have hb4 : Below w3.heap.size w3 (w3.alloc (.cells #[.int .i64 t.1, .int .i64 t.2] 38)) := (Below.refl _ _).alloc (Nat.le_refl _) _
    refine ⟨rfl, K2, ?_, hK2, HR3.out.below hb4⟩
    rw [Htp.out]
    exact H3.out.step hb4
end Go.Proofs.Ytdeefnhpechaiaa.PileS
