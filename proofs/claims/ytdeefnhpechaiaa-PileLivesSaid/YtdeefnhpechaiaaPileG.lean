/- Contracts of a pile's methods: Move, Drop, Pop. -/
import Derived.Test.YtdeefnhpechaiaaPileF
import Derived.Test.YtdeefnhpechaiaaPileQ
namespace Go.Proofs.Ytdeefnhpechaiaa.PileG
set_option linter.unusedVariables false
open Go.RowKit Go.Maps Go.Proofs.YtdeefnhpechaiaaW.PrintWords Go.Proofs.YtdeefnhpechaiaaW.PrintLast Go.Proofs.YtdeefnhpechaiaaW.PrintMore Go.Proofs.Ytdeefnhpechaiaa.PileP Go.Proofs.Ytdeefnhpechaiaa.PileC Go.Proofs.Ytdeefnhpechaiaa.PileD Go.Proofs.Ytdeefnhpechaiaa.PileE Go.Proofs.Ytdeefnhpechaiaa.PileF Go.Proofs.Ytdeefnhpechaiaa.Q
theorem set_same {α : Type} {L : List α} {n : Nat} {x : α} (h : L[n]? = some x) : L.set n x = L := by
  apply List.ext_getElem?
  intro m
  rw [List.getElem?_set]
  split
  · rename_i e
    subst e
    have := (List.getElem?_eq_some_iff.1 h).1
    rw [if_pos this, h]
  · rfl
theorem opened {W : World} {B g K : Nat} {l : List It} {look : Int → Option Nat} {F : Nat → Prop} (h : IsP W B g l look K F) {v : Value} {b : Nat} (hg : W.heap[g]? = some (.cells #[v, .map (some b)] 49 (0, 0))) :
    ∃ D, W.ownsRow B 51 2 v l.length (fl l) ∧ W.ownsMap Try.prog 3 PE b K D ∧ B ≤ g ∧ B ≤ b ∧ Lk D look ∧ (∀ x ∈ l, (Lit.int .i64 x.1).wf = true) ∧ F = fun k => k = g ∨ k = b ∨ some k = v.ownBlock := by
  obtain ⟨v1, b1, D, e1, e2, e3, e4, e5, e6, e7, e8⟩ := h
  rw [e1] at hg
  injection hg with hg
  injection hg with hg
  have hgl : [v1, Value.map (some b1)] = [v, .map (some b)] := congrArg Array.toList hg
  injection hgl with x1 x2
  injection x2 with x2 _
  injection x2 with x2
  injection x2 with x2
  subst x1 x2
  exact ⟨D, e2, e3, e4, e5, e6, e7, e8⟩
theorem IsP.rank {W : World} {B g K : Nat} {l : List It} {look : Int → Option Nat} {F : Nat → Prop} (h : IsP W B g l look K F) (i : Nat) (hi : i < l.length) {rb c b : Nat} (hg : W.heap[g]? = some (.cells #[.slice (some ⟨rb, 0, none⟩) l.length c, .map (some b)] 49 (0, 0))) (r : Int) :
    IsP (W.setCell ⟨rb, i * 2 + 1, none⟩ (.int .i64 r)) B g (l.set i ((at_ l i).1, r)) look K F ∧ Turn W (W.setCell ⟨rb, i * 2 + 1, none⟩ (.int .i64 r)) F := by
  obtain ⟨D, h2, ⟨es, ck, hm, hr⟩, h4, h5, h6, h7, rfl⟩ := opened h hg
  have h2' := h2
  rcases h2.2 with ⟨h, h0⟩ | ⟨rb', c', cur, hv, hBr, hb, hlc, hmx, hcs, htk⟩
  · omega
  · injection hv with e1 e2 e3
    injection e1 with e1
    injection e1 with e1
    subst e1 e3
    have hgr : g ≠ rb := by
      rintro rfl
      rw [hg] at hb; injection hb with hb; injection hb with _ hb; cases hb
    have hbr : b ≠ rb := by
      rintro rfl
      rw [hm] at hb; cases hb
    have far : ∀ q, q ≠ rb → (W.setCell ⟨rb, i * 2 + 1, none⟩ (.int .i64 r)).heap[q]? = W.heap[q]? := fun q hq => Below.heap_setCell _ ⟨rb, i * 2 + 1, none⟩ _ q hq
    refine ⟨⟨_, b, D, (far g hgr).trans hg, ⟨by rw [fl_length], .inr ⟨rb, c, _, by rw [List.length_set], hBr, blk_set hb (i * 2 + 1) (.int .i64 r), by rw [List.length_set]; exact hlc, hmx, by simpa using hcs, ?_⟩⟩, ⟨es, ck, (far b hbr).trans hm, hr⟩, h4, h5, h6, fun x hx => ?_, rfl⟩, ?_⟩
    · rw [List.length_set, ← fl_set, set_same (fl_get l i hi).1, ← htk]
      simp only [Array.toList_setIfInBounds]
      rw [List.take_set]
    · rcases List.mem_or_eq_of_mem_set hx with hx | rfl
      · exact h7 x hx
      · exact h7 (at_ l i) (at_mem hi)
    · refine ⟨rfl, rfl, rfl, by simp [World.setCell], fun q hq hn => far q ?_⟩
      rintro rfl
      exact hn (.inr (.inr rfl))
theorem IsP.shrink {W : World} {B g K : Nat} {l : List It} {look : Int → Option Nat} {F : Nat → Prop} (h : IsP W B g l look K F) (n : Nat) (hn : n < l.length) {rb c b : Nat} (hg : W.heap[g]? = some (.cells #[.slice (some ⟨rb, 0, none⟩) l.length c, .map (some b)] 49 (0, 0))) :
    IsP (W.setCell ⟨g, 0, none⟩ (.slice (some ⟨rb, 0, none⟩) n c)) B g (l.take n) look K F ∧ Turn W (W.setCell ⟨g, 0, none⟩ (.slice (some ⟨rb, 0, none⟩) n c)) F := by
  obtain ⟨D, h2, ⟨es, ck, hm, hr⟩, h4, h5, h6, h7, rfl⟩ := opened h hg
  rcases h2.2 with ⟨h, h0⟩ | ⟨rb', c', cur, hv, hBr, hb, hlc, hmx, hcs, htk⟩
  · omega
  · injection hv with e1 e2 e3
    injection e1 with e1
    injection e1 with e1
    subst e1 e3
    have hgr : rb ≠ g := by
      rintro rfl
      rw [hg] at hb; injection hb with hb; injection hb with _ hb; cases hb
    have hbr : b ≠ g := by
      rintro rfl
      rw [hm] at hg; cases hg
    have far : ∀ q, q ≠ g → (W.setCell ⟨g, 0, none⟩ (.slice (some ⟨rb, 0, none⟩) n c)).heap[q]? = W.heap[q]? := fun q hq => Below.heap_setCell _ ⟨g, 0, none⟩ _ q hq
    have hln : (l.take n).length = n := by rw [List.length_take]; omega
    refine ⟨⟨.slice (some ⟨rb, 0, none⟩) n c, b, D, blk_set hg 0 _, ⟨by rw [fl_length], .inr ⟨rb, c, cur, by rw [hln], hBr, (far rb hgr).trans hb, by rw [hln]; omega, hmx, hcs, ?_⟩⟩, ⟨es, ck, (far b hbr).trans hm, hr⟩, h4, h5, h6, fun x hx => h7 x (List.mem_of_mem_take hx), rfl⟩, ?_⟩
    · rw [hln, fl_take, ← htk, List.take_take]
      congr 1
      omega
    · exact ⟨rfl, rfl, rfl, by simp [World.setCell], fun q hq hnF => far q (fun e => hnF (.inl e))⟩
theorem look_no {look : Int → Option Nat} {D : DataW Unit} (hL : Lk D look) {key : Int} (hl : look key = none) : Maps.has D (.int .i64 key) = false := by
  have h := hL.2 key
  rw [hl] at h
  exact h
theorem look_yes {look : Int → Option Nat} {D : DataW Unit} (hL : Lk D look) {key : Int} {i : Nat} (hl : look key = some i) : Maps.has D (.int .i64 key) = true := by
  have h := hL.2 key
  rw [hl] at h
  exact h.1
/-- Move, of a key that is not there. -/
theorem move_no (W : World) (B g : Nat) (l : List It) (K : Nat) (F : Nat → Prop) (look : Int → Option Nat) (hP : IsP W B g l look K F) (key rank : Int) (hw : (Lit.int .i64 key).wf = true) (hl : look key = none) :
    Calls Try.prog 17 #[.pointer (some ⟨g, 0, none⟩), .int .i64 key, .int .i64 rank] W fun e w' => e = .returned (.bool false) ∧ Below W.heap.size W w' := by
  obtain ⟨v, b, D, h1, hown, hL, hbl, -⟩ := hP.map
  have hcell1 : W.cell? ⟨g, 1, none⟩ = some (.map (some b)) := (blk_cell h1 1).trans rfl
  have Hown := Lib.hid hown
  have hhas := look_no hL hl
  clear hown hL h1 hP hl
  go_enter Try.func17, Try.ntmps17
  go_wp2_with (at_lookup; refine wpList_lookup_own_ok_int _ rfl _ _ 47 rfl 3 3 .i64 (int_keyed Try.underlying3) Try.underlying47 Try.underlying3 (zero3 _) b K D rfl Hown.out _ _ rfl (keyOf3 hw) ?_; intro ci hat hwc; clear hat hwc)
  go_ret
  exact ⟨rfl, Below.refl _ _⟩
set_option maxHeartbeats 4000000 in
set_option maxRecDepth 100000 in
/-- Move, of a key that is there. -/
theorem move_yes (W : World) (B g : Nat) (l : List It) (hll : l.length ≤ 1000) (K : Nat) (hK : Hid (K + 5000 < maxLen)) (F : Nat → Prop) (look : Int → Option Nat) (hP : IsP W B g l look K F) (hk : PileP.Keyed look l) (hh : Heap l) (key rank : Int) (hw : (Lit.int .i64 key).wf = true) (i : Nat) (hl : look key = some i) :
    Calls Try.prog 17 #[.pointer (some ⟨g, 0, none⟩), .int .i64 key, .int .i64 rank] W fun e w' => e = .returned (.bool true) ∧ ∃ (l' : List It) (K' : Nat), Hid (PileF.Good w' B g l' K' F) ∧ Hid (l'.Perm (l.set i (key, rank))) ∧ K' ≤ K + 5000 ∧ Hid (Turn W w' F) := by
  obtain ⟨hi, hik⟩ := (hk key i).1 hl
  obtain ⟨rb, c, b, hg, hlc, hrl, hBr, hcs, hfs, -⟩ := hP.cells i hi
  obtain ⟨v, b2, D, h1, hown, hL, hbl, -⟩ := hP.map
  have hb2 : b2 = b := by
    rw [hg] at h1
    injection h1 with h1
    injection h1 with h1
    have hgl : [Value.slice (some ⟨rb, 0, none⟩) l.length c, Value.map (some b)] = [v, .map (some b2)] := congrArg Array.toList h1
    injection hgl with _ x2
    injection x2 with x2 _
    injection x2 with x2
    injection x2 with x2
    exact x2.symm
  subst hb2
  obtain ⟨hc1, hc2⟩ := hcs i hi
  have hcell : W.cell? ⟨g, 0, none⟩ = some (.slice (some ⟨rb, 0, none⟩) l.length c) := (blk_cell hg 0).trans rfl
  have hcell1 : W.cell? ⟨g, 1, none⟩ = some (.map (some b2)) := (blk_cell hg 1).trans rfl
  have hfz := hfs (i * 2 + 1)
  have hil : (i : Int) < (l.length : Int) := by omega
  have hhas := look_yes hL hl
  obtain ⟨hP2, hT2⟩ := IsP.rank hP i hi hg rank
  rw [hik] at hP2
  have HP2 := Lib.hid hP2
  have HT2 := Lib.hid hT2
  have Hown := Lib.hid hown
  have HL := Lib.hid hL
  have Hl := Lib.hid hl
  have Hk2 := Lib.hid (hk.rank hl rank)
  have HA := Lib.hid (hh.set i (key, rank))
  clear hP2 hT2 hown hL h1 hg hcs hfs hP hl hk hh hc1 hik
  go_enter Try.func17, Try.ntmps17
  go_wp2_with (at_lookup; refine wpList_lookup_own_ok_int _ rfl _ _ 47 rfl 3 3 .i64 (int_keyed Try.underlying3) Try.underlying47 Try.underlying3 (zero3 _) b2 K D rfl Hown.out _ _ rfl (keyOf3 hw) ?_; intro ci hat hwc; obtain rfl := Lk.at HL.out Hl.out hat; clear hat hwc)
  generalize W.setCell ⟨rb, i * 2 + 1, none⟩ (.int .i64 rank) = w2 at *
  have hls : (l.set i (key, rank)).length = l.length := List.length_set ..
  have HKa : Hid (K + 2000 < maxLen) := by have h := hK.out; show K + 2000 < maxLen; omega
  refine (up_c w2 B g _ look K F HP2.out Hk2.out (by rw [hls]; exact hll) HKa i (by rw [hls]; exact hi) HA.out).mono ?_
  rintro e w4 ⟨i', l', look', K', rfl, HP4, Hk4, Hp4, hl4, hi4, hK4, Hs4, HT4⟩
  have HD : Hid (DownInv l' i') := by
    rcases Hs4.out with ⟨rfl, rfl, hs⟩ | h
    · exact HA.out.stop hs
    · exact h.down i'
  have HKb : Hid (K' + 2000 < maxLen) := by have h := hK.out; show K' + 2000 < maxLen; omega
  rw [hls] at hl4
  clear hcell hcell1 hfz hc2 hls
  go_wp2_with fail
  refine (down_c w4 B g l' look' K' F HP4.out Hk4.out (by omega) HKb i' hi4 HD.out).mono ?_
  rintro e w5 ⟨l5, look5, K5, rfl, HP5, Hk5, Hp5, hl5, hK5, Hh5, HT5⟩
  go_wp2_with fail
  go_ret
  exact ⟨rfl, l5, K5, ⟨look5, HP5.out, Hk5.out, Hh5.out⟩, Hp5.out.trans Hp4.out, by omega, (HT2.out.trans HT4.out (fun _ h => .inl h)).trans HT5.out (fun _ h => .inl h)⟩
/-- Drop, of a key that is not there. -/
theorem drop_no (W : World) (B g : Nat) (l : List It) (K : Nat) (F : Nat → Prop) (look : Int → Option Nat) (hP : IsP W B g l look K F) (key : Int) (hw : (Lit.int .i64 key).wf = true) (hl : look key = none) :
    Calls Try.prog 18 #[.pointer (some ⟨g, 0, none⟩), .int .i64 key] W fun e w' => e = .returned (.bool false) ∧ Below W.heap.size W w' := by
  obtain ⟨v, b, D, h1, hown, hL, hbl, -⟩ := hP.map
  have hcell1 : W.cell? ⟨g, 1, none⟩ = some (.map (some b)) := (blk_cell h1 1).trans rfl
  have Hown := Lib.hid hown
  have hhas := look_no hL hl
  clear hown hL h1 hP hl
  go_enter Try.func18, Try.ntmps18
  go_wp2_with (at_lookup; refine wpList_lookup_own_ok_int _ rfl _ _ 47 rfl 3 3 .i64 (int_keyed Try.underlying3) Try.underlying47 Try.underlying3 (zero3 _) b K D rfl Hown.out _ _ rfl (keyOf3 hw) ?_; intro ci hat hwc; clear hat hwc)
  go_ret
  exact ⟨rfl, Below.refl _ _⟩
theorem map_of {W : World} {B g K : Nat} {l : List It} {look : Int → Option Nat} {F : Nat → Prop} (h : IsP W B g l look K F) {v : Value} {b : Nat} (hg : W.heap[g]? = some (.cells #[v, .map (some b)] 49 (0, 0))) :
    ∃ D, W.ownsMap Try.prog 3 PE b K D ∧ Lk D look ∧ b < W.heap.size ∧ (∀ (W1 : World) (K1 : Nat) (D1 : DataW Unit) (look1 : Int → Option Nat), W1.ownsMap Try.prog 3 PE b K1 D1 → Lk D1 look1 → W.grownBy W1 (some b) → IsP W1 B g l look1 K1 F ∧ Turn W W1 F) := by
  obtain ⟨v2, b2, D, h1, hown, hL, hbl, hmk⟩ := h.map
  rw [h1] at hg
  injection hg with hg
  injection hg with hg
  have hgl : [v2, Value.map (some b2)] = [v, .map (some b)] := congrArg Array.toList hg
  injection hgl with _ x2
  injection x2 with x2 _
  injection x2 with x2
  injection x2 with x2
  subst x2
  exact ⟨D, hown, hL, hbl, hmk⟩
set_option maxHeartbeats 4000000 in
set_option maxRecDepth 100000 in
/-- Drop, of a key that is there. -/
theorem drop_yes (W : World) (B g : Nat) (l : List It) (hll : l.length ≤ 1000) (K : Nat) (hK : Hid (K + 5000 < maxLen)) (F : Nat → Prop) (look : Int → Option Nat) (hP : IsP W B g l look K F) (hk : PileP.Keyed look l) (hh : Heap l) (key : Int) (hw : (Lit.int .i64 key).wf = true) (i : Nat) (hl : look key = some i) :
    Calls Try.prog 18 #[.pointer (some ⟨g, 0, none⟩), .int .i64 key] W fun e w' => e = .returned (.bool true) ∧ ∃ (l' : List It) (K' : Nat), Hid (PileF.Good w' B g l' K' F) ∧ Hid (l'.Perm (l.eraseIdx i)) ∧ K' ≤ K + 5000 ∧ Hid (Turn W w' F) := by
  obtain ⟨hi, hik⟩ := (hk key i).1 hl
  obtain ⟨m, hm⟩ : ∃ m, l.length = m + 1 := ⟨l.length - 1, by omega⟩
  obtain ⟨rb, c, b, hg, hlc, hrl, hBr, hcs, hfs, -⟩ := hP.cells m (by omega)
  obtain ⟨D, hown, hL, hbl, -⟩ := map_of hP hg
  obtain ⟨hc1, hc2⟩ := hcs m (by omega)
  have hcell : W.cell? ⟨g, 0, none⟩ = some (.slice (some ⟨rb, 0, none⟩) l.length c) := (blk_cell hg 0).trans rfl
  have hcell1 : W.cell? ⟨g, 1, none⟩ = some (.map (some b)) := (blk_cell hg 1).trans rfl
  have hgl : g < W.heap.size := blk_lt hg
  have hhas := look_yes hL hl
  have hw1 : IntKind.i64.wrap ((l.length : Int) - 1) = (m : Int) := by rw [wrap_small _ (by omega) (by omega)]; omega
  have hml : (m : Int) < (l.length : Int) := by omega
  obtain ⟨i0, hi0, hz0, hz1, hz2⟩ := info_parts PileF.info51
  have hcut := cut_to (P := Try.prog) 46 51 .i64 Try.underlying46 hi0 (some ⟨rb, 0, none⟩) l.length c (m : Int) (by omega) (by omega) hlc
  simp only [Int.toNat_natCast] at hcut
  have hA : Below W.heap.size W (W.alloc (.cells #[.int .i64 (at_ l m).1, .int .i64 (at_ l m).2] 51)) := (Below.refl _ _).alloc (Nat.le_refl _) _
  obtain ⟨hPa, hTa⟩ := IsP.shrink hP m (by omega) hg
  have hsz : (W.setCell ⟨g, 0, none⟩ (.slice (some ⟨rb, 0, none⟩) m c)).heap.size = W.heap.size := by simp [World.setCell]
  obtain ⟨hPs, hTs⟩ := upto hPa ((Below.refl _ _).alloc (Nat.le_refl _) (.cells #[.int .i64 (at_ l m).1, .int .i64 (at_ l m).2] 51))
  have hgs := blk_alloc (blk_set hg 0 (.slice (some ⟨rb, 0, none⟩) m c)) (.cells #[.int .i64 (at_ l m).1, .int .i64 (at_ l m).2] 51)
  have hbx := blk_new (W.setCell ⟨g, 0, none⟩ (.slice (some ⟨rb, 0, none⟩) m c)) (.cells #[.int .i64 (at_ l m).1, .int .i64 (at_ l m).2] 51)
  rw [hsz] at hbx
  have hcellA : (W.alloc (.cells #[.int .i64 (at_ l m).1, .int .i64 (at_ l m).2] 51)).cell? ⟨g, 0, none⟩ = some (.slice (some ⟨rb, 0, none⟩) l.length c) := (blk_cell (blk_alloc hg _) 0).trans rfl
  have hfzA : (W.alloc (.cells #[.int .i64 (at_ l m).1, .int .i64 (at_ l m).2] 51)).frozen? ⟨g, 0, none⟩ = false := blk_frozen (blk_alloc hg _) 0
  have hwx : (Lit.int .i64 (at_ l m).1).wf = true := wf_at hP m (by omega)
  have hout := out_perm l i hi
  have hko := hk.out hl
  have hoe : PileP.out l i = if i < m then (l.take m).set i (at_ l m) else l.take m := by
    unfold PileP.out
    rw [show l.length - 1 = m from by omega]
  rw [show l.length - 1 = m from by omega] at hko
  have htk := hh.take m
  generalize at_ l m = x at *
  have hPaH := Lib.hid hPa
  have hszH := Lib.hid hsz
  clear hsz
  have Hown := Lib.hid hown
  have HL := Lib.hid hL
  have Hl := Lib.hid hl
  have HPs := Lib.hid hPs
  have HTs := Lib.hid (hTa.trans hTs (fun _ h => .inl h))
  have Hgs := Lib.hid hgs
  have Hbx := Lib.hid hbx
  have Hout := Lib.hid hout
  have Hko := Lib.hid hko
  have Hoe := Lib.hid hoe
  have Htk := Lib.hid htk
  have Hm := Lib.hid hm
  have hft := hPs.foot
  obtain ⟨D2, hown2, hL2, hbl2, hmk2⟩ := map_of hPs hgs
  have Hown2 := Lib.hid hown2
  have HL2 := Lib.hid hL2
  have Hmk2 := Lib.hid hmk2
  clear hown2 hL2 hmk2 hbl2
  have Hft : Hid (∀ k, F k → k < W.heap.size) := fun k hk => (hP.foot k hk).2
  clear hPa hTa hPs hTs hgs hbx hown hL hg hcs hfs hP hl hk hh hik hout hko hoe htk hA hm hft hbl
  by_cases him : i < m
  · have him2 : (i : Int) < (m : Int) := by omega
    go_enter Try.func18, Try.ntmps18
    go_wp2_with (first
      | (at_lookup; refine wpList_lookup_own_ok_int _ rfl _ _ 47 rfl 3 3 .i64 (int_keyed Try.underlying3) Try.underlying47 Try.underlying3 (zero3 _) b K D rfl Hown.out _ _ rfl (keyOf3 hw) ?_; intro ci hat hwc; obtain rfl := Lk.at HL.out Hl.out hat; clear hat hwc)
      | (at_delete; refine wpList_delete_own _ rfl _ _ 47 3 rfl 3 (int_keyed Try.underlying3) Try.underlying47 _ b K D2 rfl Hown2.out _ _ rfl (keyOf3 hw) ?_; intro w3 hown3 hturn3; have hgr3 := hturn3.grown; obtain ⟨hP3, hT3⟩ := Hmk2.out w3 K _ _ hown3 (HL2.out.del key) hgr3; have HP3 := Lib.hid hP3; have HT3 := Lib.hid (HTs.out.trans hT3 (fun _ h => .inl h)); have hbx3 := keep_new (W := W.setCell ⟨g, 0, none⟩ (.slice (some ⟨rb, 0, none⟩) m c)) hPaH.out (n := W.heap.size) (by rw [hszH.out]; exact Nat.le_refl _) Hbx.out hT3; have hz1 : w3.cell? ⟨W.heap.size, 0, none⟩ = some (.int .i64 x.1) := (blk_cell hbx3 0).trans rfl; have hz2 : w3.cell? ⟨W.heap.size, 1, none⟩ = some (.int .i64 x.2) := (blk_cell hbx3 1).trans rfl; clear hP3 hT3 hown3 hgr3 hturn3 hbx3))
    have hlm : (l.take m).length = m := by rw [List.length_take, Hm.out]; omega
    have HKz : Hid (K < maxLen) := by have h := hK.out; show K < maxLen; omega
    refine (set_c w3 B g (l.take m) _ K F HP3.out (by rw [hlm]; omega) HKz i (by rw [hlm]; exact him) x.1 x.2 hwx).mono ?_
    rintro e w4 ⟨rfl, hP4, hT4⟩
    have hoe := Hoe.out
    rw [if_pos him] at hoe
    have hlo : (PileP.out l i).length = m := by rw [out_length, Hm.out]; rfl
    have hP4 : IsP w4 B g (PileP.out l i) (upd (upd look key none) x.1 (some i)) (K + 1) F := by rw [hoe]; exact hP4
    have hkq := Hko.out
    rw [if_pos him] at hkq
    have hA4 : AnyInv (PileP.out l i) i := by rw [hoe]; exact Htk.out.set i x
    have HP4 := Lib.hid hP4
    have HT4 := Lib.hid hT4
    have Hkq := Lib.hid hkq
    have HA4 := Lib.hid hA4
    clear hP4 hT4 hkq hA4 hoe hz1 hz2 hlm
    go_wp2_with fail
    have HKa : Hid (K + 1 + 2000 < maxLen) := by have h := hK.out; show K + 1 + 2000 < maxLen; omega
    refine (up_c w4 B g _ _ (K + 1) F HP4.out Hkq.out (by rw [hlo]; omega) HKa i (by rw [hlo]; exact him) HA4.out).mono ?_
    rintro e w5 ⟨i', l', look', K', rfl, HP5, Hk5, Hp5, hl5, hi5, hK5, Hs5, HT5⟩
    have HD : Hid (DownInv l' i') := by
      rcases Hs5.out with ⟨rfl, rfl, hs⟩ | h
      · exact HA4.out.stop hs
      · exact h.down i'
    rw [hlo] at hl5
    have HKb : Hid (K' + 2000 < maxLen) := by have h := hK.out; show K' + 2000 < maxLen; omega
    clear hlo
    go_wp2_with fail
    refine (down_c w5 B g l' look' K' F HP5.out Hk5.out (by omega) HKb i' hi5 HD.out).mono ?_
    rintro e w6 ⟨l6, look6, K6, rfl, HP6, Hk6, Hp6, hl6, hK6, Hh6, HT6⟩
    go_wp2_with fail
    go_ret
    exact ⟨rfl, l6, K6, ⟨look6, HP6.out, Hk6.out, Hh6.out⟩, (Hp6.out.trans Hp5.out).trans Hout.out, by omega, (((HT3.out.trans HT4.out (fun _ h => .inl h)).trans HT5.out (fun _ h => .inl h)).trans HT6.out (fun _ h => .inl h))⟩
  · have him2 : ¬ (i : Int) < (m : Int) := by omega
    have hide : decide ((i : Int) < (m : Int)) = false := decide_eq_false him2
    go_enter Try.func18, Try.ntmps18
    go_wp2_with (first
      | (at_lookup; refine wpList_lookup_own_ok_int _ rfl _ _ 47 rfl 3 3 .i64 (int_keyed Try.underlying3) Try.underlying47 Try.underlying3 (zero3 _) b K D rfl Hown.out _ _ rfl (keyOf3 hw) ?_; intro ci hat hwc; obtain rfl := Lk.at HL.out Hl.out hat; clear hat hwc)
      | (at_delete; refine wpList_delete_own _ rfl _ _ 47 3 rfl 3 (int_keyed Try.underlying3) Try.underlying47 _ b K D2 rfl Hown2.out _ _ rfl (keyOf3 hw) ?_; intro w3 hown3 hturn3; have hgr3 := hturn3.grown; obtain ⟨hP3, hT3⟩ := Hmk2.out w3 K _ _ hown3 (HL2.out.del key) hgr3; have HP3 := Lib.hid hP3; have HT3 := Lib.hid (HTs.out.trans hT3 (fun _ h => .inl h)); have hbx3 := keep_new (W := W.setCell ⟨g, 0, none⟩ (.slice (some ⟨rb, 0, none⟩) m c)) hPaH.out (n := W.heap.size) (by rw [hszH.out]; exact Nat.le_refl _) Hbx.out hT3; have hz1 : w3.cell? ⟨W.heap.size, 0, none⟩ = some (.int .i64 x.1) := (blk_cell hbx3 0).trans rfl; have hz2 : w3.cell? ⟨W.heap.size, 1, none⟩ = some (.int .i64 x.2) := (blk_cell hbx3 1).trans rfl; clear hP3 hT3 hown3 hgr3 hturn3 hbx3))
    go_ret
    have hoe := Hoe.out
    rw [if_neg him] at hoe
    have hkq := Hko.out
    rw [if_neg him] at hkq
    refine ⟨rfl, PileP.out l i, K, ⟨upd look key none, ?_, hkq, ?_⟩, Hout.out, by omega, HT3.out⟩
    · rw [hoe]; exact HP3.out
    · rw [hoe]; exact Htk.out
end Go.Proofs.Ytdeefnhpechaiaa.PileG
