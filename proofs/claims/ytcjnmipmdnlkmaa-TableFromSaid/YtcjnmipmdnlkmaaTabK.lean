/- The walks of the laws TableKeys and TableLast: at every input they return true, and nothing that was there is changed. -/
import Derived.Test.YtcjnmipmdnlkmaaTabD
namespace Go.Proofs.Ytcjnmipmdnlkmaa.TabK
set_option linter.unusedVariables false
open Go.RowKit Go.Proofs.YtcjnmipmdnlkmaaW.PrintWords Go.Proofs.YtcjnmipmdnlkmaaW.PrintLast Go.Proofs.YtcjnmipmdnlkmaaW.PrintMore Go.Proofs.Ytcjnmipmdnlkmaa.TabP Go.Proofs.Ytcjnmipmdnlkmaa.TabE Go.Proofs.Ytcjnmipmdnlkmaa.TabC Go.Proofs.Ytcjnmipmdnlkmaa.TabD Go.Proofs.Ytcjnmipmdnlkmaa.Q
theorem made_s (ops : List S43) (hl : ops.length ≤ 500) (A : Option Addr) (c : Nat) (hc : ops.length ≤ c) (w : World) (hC : Kd.C k43 w A ops.length ops) :
    Calls Try.prog 10 #[.slice A ops.length c] w fun e w' => ∃ (g : Nat) (A1 : Option Addr) (c1 : Nat) (l : List Pr), e = .returned (.tuple #[.pointer (some ⟨g, 0, none⟩), .slice A1 l.length c1]) ∧ Hid (Rising l) ∧ l.length ≤ ops.length ∧ Hid (IsT w' w.heap.size g l) ∧ Hid (Kd.R k31 31 w' w.heap.size (fun _ => True) (.slice A1 l.length c1) (l.map mk31)) ∧ Hid (Kd.C k31 w' A1 l.length (l.map mk31)) ∧ l.length ≤ c1 ∧ Hid (Below w.heap.size w w') := by
  refine (made_c ops hl A c hc w hC).mono ?_
  rintro e w' ⟨g, vm, l, rfl, hr, hll, hT, hM, hb⟩
  obtain ⟨A1, c1, rfl, hc1, hC1⟩ := Kd.R_reads hM
  have hlen : (l.map mk31).length = l.length := List.length_map ..
  rw [hlen] at hM hc1 hC1 ⊢
  exact ⟨g, A1, c1, l, rfl, hr, hll, hT, hM, hC1, hc1, hb⟩
theorem keys_walk (ops : List S43) (A : Option Addr) (c : Nat) (hc : ops.length ≤ c) (hmax : ops.length ≤ 9223372036854775807) (i : Int) (w : World) (hC : Kd.C k43 w A ops.length ops) :
    Calls Try.prog 3 #[.slice A ops.length c, .int .i64 i] w fun e w' => e = .returned (.bool true) ∧ Below w.heap.size w w' := by
  have HC := Lib.hid hC
  clear hC
  by_cases h120 : ops.length > 120
  · go_enter Try.func3, Try.ntmps3
    go_wp2_with (go_at_call 9; refine (heads_c _).mono ?_; rintro e w' ⟨rfl, hb⟩)
    go_ret
    exact ⟨rfl, hb⟩
  · go_enter Try.func3, Try.ntmps3
    go_wp2_with fail
    refine (made_s ops (by omega) A c hc w HC.out).mono ?_
    rintro e w1 ⟨g, A1, c1, l, rfl, Hr, hl, HT, HM, HC1, hc1, HB⟩
    go_wp2_with fail
    by_cases h0 : i < 0
    · refine (key_out (l.map mk57) i (.inl h0) _ _ g HT.out).mono ?_
      rintro e w' ⟨rfl, ⟨m, rfl⟩⟩
      go_wp2_with (go_at_call 9; refine (heads_c _).mono ?_; rintro e w' ⟨rfl, hb⟩)
      go_ret
      exact ⟨rfl, below_step (pw_below_drewN HB.out m) hb⟩
    · by_cases h1 : (l.length : Int) ≤ i
      · have h2 : decide ((l.length : Int) ≤ i) = true := by simpa using h1
        refine (key_out (l.map mk57) i (.inr (by rw [len57]; exact h1)) _ _ g HT.out).mono ?_
        rintro e w' ⟨rfl, ⟨m, rfl⟩⟩
        go_wp2_with (go_at_call 9; refine (heads_c _).mono ?_; rintro e w' ⟨rfl, hb⟩)
        go_ret
        exact ⟨rfl, below_step (pw_below_drewN HB.out m) hb⟩
      · obtain ⟨j, rfl⟩ := Int.eq_ofNat_of_zero_le (by omega : 0 ≤ i)
        have hj : j < l.length := by omega
        have h2 : decide ((l.length : Int) ≤ (j : Int)) = false := by simp; omega
        have hx : l[j]? = some l[j] := List.getElem?_eq_getElem hj
        obtain ⟨ad, rfl, hk1, hk2⟩ := at_T31 HC1.out (j : Int) (by omega) (by omega)
        rw [rd31 l j _ hx] at hk1 hk2
        simp only [Int.toNat_natCast, mk31] at hk1 hk2
        have HK := Lib.hid (key_c l j _ hx w1 w.heap.size g HT.out)
        clear hx
        generalize l[j] = x at hk1 hk2 HK
        refine (HK.out).mono ?_
        rintro e w' ⟨rfl, ⟨m, rfl⟩⟩
        go_wp2_with (go_at_call 9; refine (heads_c _).mono ?_; rintro e w' ⟨rfl, hb⟩)
        go_ret
        exact ⟨rfl, below_step (pw_below_drewN HB.out m) hb⟩
theorem has_put (l : List Pr) (k v : ByteArray) : has (put l k v) k = true := by rw [← get_snd, get_put_same]
theorem last_walk (ops : List S43) (A : Option Addr) (c : Nat) (hc : ops.length ≤ c) (hmax : ops.length ≤ 9223372036854775807) (key v other : ByteArray) (w : World) (hC : Kd.C k43 w A ops.length ops) :
    Calls Try.prog 4 #[.slice A ops.length c, .string key, .string v, .string other] w fun e w' => e = .returned (.bool true) ∧ Below w.heap.size w w' := by
  have HC := Lib.hid hC
  clear hC
  by_cases h100 : ops.length > 100
  · go_enter Try.func4, Try.ntmps4
    go_wp2_with (go_at_call 9; refine (heads_c _).mono ?_; rintro e w' ⟨rfl, hb⟩)
    go_ret
    exact ⟨rfl, hb⟩
  · go_enter Try.func4, Try.ntmps4
    go_wp2_with fail
    refine (made_s ops (by omega) A c hc w HC.out).mono ?_
    rintro e w1 ⟨g, A1, c1, l, rfl, Hr, hl, HT, HM, HC1, hc1, HB⟩
    clear HM HC1
    go_wp2_with fail
    refine (get_c l Hr.out (by omega) other w1 _ g HT.out).mono ?_
    rintro e w' ⟨rfl, ⟨m1, rfl⟩⟩
    go_wp2_with fail
    refine (len_c l _ _ g (HT.out.drewN m1)).mono ?_
    rintro e w' ⟨rfl, ⟨m2, rfl⟩⟩
    go_wp2_with fail
    refine (get_c l Hr.out (by omega) key (w1.drewN (m1 + m2)) _ g (HT.out.drewN _)).mono ?_
    rintro e w' ⟨rfl, ⟨m3, rfl⟩⟩
    go_wp2_with fail
    refine (put_c l Hr.out (by omega) key v (w1.drewN (m1 + m2 + m3)) w.heap.size g HB.out.size (HT.out.drewN _)).mono ?_
    rintro e w2 ⟨rfl, hT2, hg2⟩
    have HT2 := Lib.hid hT2
    have HB2 := Lib.hid (below_put (W := w1.drewN (m1 + m2 + m3)) (pw_below_drewN HB.out _) (HT.out.drewN _) hg2)
    have Hr2 := Lib.hid (put_rising Hr.out key v)
    have Hg1 := Lib.hid (get_put_same l key v)
    have Hs1 := Lib.hid (get_snd l key)
    have hpl := put_length l key v
    have hpl2 : (put l key v).length ≤ 200 := by rw [hpl]; split <;> omega
    have Hpl := Lib.hid hpl
    have Hhp := Lib.hid (has_put l key v)
    have Hgo := Lib.hid (fun h : other ≠ key => get_put_other Hr.out key v other h)
    clear hT2 hg2 hpl
    generalize hp : put l key v = p at *
    clear hp
    go_wp2_with fail
    refine (get_c p Hr2.out (by omega) key w2 _ g HT2.out).mono ?_
    rw [Hg1.out]
    rintro e w' ⟨rfl, ⟨m4, rfl⟩⟩
    go_wp2_with fail
    refine (get_c p Hr2.out (by omega) other (w2.drewN m4) _ g (HT2.out.drewN _)).mono ?_
    rintro e w' ⟨rfl, ⟨m5, rfl⟩⟩
    rw [Hs1.out]
    by_cases ho : other = key
    · subst ho
      have hoe : (other.toList == other.toList) = true := beq_iff_eq.2 rfl
      cases hb : has l other
      · have hpe : ((p.length : Int) != (l.length : Int) + 1) = false := by rw [Hpl.out, hb]; simp
        clear hb
        go_wp2_with (go_at_call 13; refine (len_c p (w2.drewN (m4 + m5)) w.heap.size g (HT2.out.drewN _)).mono ?_; rintro e w' ⟨rfl, ⟨m6, rfl⟩⟩)
        refine (del_c p Hr2.out (by omega) other (w2.drewN (m4 + m5 + m6)) w.heap.size g HB2.out.size (HT2.out.drewN _)).mono ?_
        rw [Hhp.out]
        rintro e w3 ⟨rfl, hT3, hg3⟩
        have HT3 := Lib.hid hT3
        have HB3 := Lib.hid (below_put (W := w2.drewN (m4 + m5 + m6)) (pw_below_drewN HB2.out _) (HT2.out.drewN _) hg3)
        clear hT3 hg3
        go_wp2_with fail
        refine (del_c (del p other) (del_rising Hr2.out _) (by have := del_length p other; omega) other w3 w.heap.size g HB3.out.size HT3.out).mono ?_
        rw [has_del Hr2.out]
        rintro e w4 ⟨rfl, hT4, hg4⟩
        have HB4 := Lib.hid (below_put HB3.out HT3.out hg4)
        clear hT4 hg4
        go_wp2_with (go_at_call 9; refine (heads_c _).mono ?_; rintro e w' ⟨rfl, hb⟩)
        go_ret
        exact ⟨rfl, below_step HB4.out hb⟩
      · have hpe : ((p.length : Int) != (l.length : Int)) = false := by rw [Hpl.out, hb]; simp
        clear hb
        go_wp2_with (go_at_call 13; refine (len_c p (w2.drewN (m4 + m5)) w.heap.size g (HT2.out.drewN _)).mono ?_; rintro e w' ⟨rfl, ⟨m6, rfl⟩⟩)
        refine (del_c p Hr2.out (by omega) other (w2.drewN (m4 + m5 + m6)) w.heap.size g HB2.out.size (HT2.out.drewN _)).mono ?_
        rw [Hhp.out]
        rintro e w3 ⟨rfl, hT3, hg3⟩
        have HT3 := Lib.hid hT3
        have HB3 := Lib.hid (below_put (W := w2.drewN (m4 + m5 + m6)) (pw_below_drewN HB2.out _) (HT2.out.drewN _) hg3)
        clear hT3 hg3
        go_wp2_with fail
        refine (del_c (del p other) (del_rising Hr2.out _) (by have := del_length p other; omega) other w3 w.heap.size g HB3.out.size HT3.out).mono ?_
        rw [has_del Hr2.out]
        rintro e w4 ⟨rfl, hT4, hg4⟩
        have HB4 := Lib.hid (below_put HB3.out HT3.out hg4)
        clear hT4 hg4
        go_wp2_with (go_at_call 9; refine (heads_c _).mono ?_; rintro e w' ⟨rfl, hb⟩)
        go_ret
        exact ⟨rfl, below_step HB4.out hb⟩
    · have hne : ¬ other.toList = key.toList := fun h => ho (toList_eq.1 h)
      have hn1 : (other.toList == key.toList) = false := beq_eq_false_iff_ne.2 hne
      have hgo := Hgo.out ho
      rw [hgo]
      clear hgo ho hne
      cases hb : has l key
      · have hpe : ((p.length : Int) != (l.length : Int) + 1) = false := by rw [Hpl.out, hb]; simp
        clear hb
        go_wp2_with (go_at_call 13; refine (len_c p (w2.drewN (m4 + m5)) w.heap.size g (HT2.out.drewN _)).mono ?_; rintro e w' ⟨rfl, ⟨m6, rfl⟩⟩)
        refine (del_c p Hr2.out (by omega) key (w2.drewN (m4 + m5 + m6)) w.heap.size g HB2.out.size (HT2.out.drewN _)).mono ?_
        rw [Hhp.out]
        rintro e w3 ⟨rfl, hT3, hg3⟩
        have HT3 := Lib.hid hT3
        have HB3 := Lib.hid (below_put (W := w2.drewN (m4 + m5 + m6)) (pw_below_drewN HB2.out _) (HT2.out.drewN _) hg3)
        clear hT3 hg3
        go_wp2_with fail
        refine (del_c (del p key) (del_rising Hr2.out _) (by have := del_length p key; omega) key w3 w.heap.size g HB3.out.size HT3.out).mono ?_
        rw [has_del Hr2.out]
        rintro e w4 ⟨rfl, hT4, hg4⟩
        have HB4 := Lib.hid (below_put HB3.out HT3.out hg4)
        clear hT4 hg4
        go_wp2_with (go_at_call 9; refine (heads_c _).mono ?_; rintro e w' ⟨rfl, hb⟩)
        go_ret
        exact ⟨rfl, below_step HB4.out hb⟩
      · have hpe : ((p.length : Int) != (l.length : Int)) = false := by rw [Hpl.out, hb]; simp
        clear hb
        go_wp2_with (go_at_call 13; refine (len_c p (w2.drewN (m4 + m5)) w.heap.size g (HT2.out.drewN _)).mono ?_; rintro e w' ⟨rfl, ⟨m6, rfl⟩⟩)
        refine (del_c p Hr2.out (by omega) key (w2.drewN (m4 + m5 + m6)) w.heap.size g HB2.out.size (HT2.out.drewN _)).mono ?_
        rw [Hhp.out]
        rintro e w3 ⟨rfl, hT3, hg3⟩
        have HT3 := Lib.hid hT3
        have HB3 := Lib.hid (below_put (W := w2.drewN (m4 + m5 + m6)) (pw_below_drewN HB2.out _) (HT2.out.drewN _) hg3)
        clear hT3 hg3
        go_wp2_with fail
        refine (del_c (del p key) (del_rising Hr2.out _) (by have := del_length p key; omega) key w3 w.heap.size g HB3.out.size HT3.out).mono ?_
        rw [has_del Hr2.out]
        rintro e w4 ⟨rfl, hT4, hg4⟩
        have HB4 := Lib.hid (below_put HB3.out HT3.out hg4)
        clear hT4 hg4
        go_wp2_with (go_at_call 9; refine (heads_c _).mono ?_; rintro e w' ⟨rfl, hb⟩)
        go_ret
        exact ⟨rfl, below_step HB4.out hb⟩
end Go.Proofs.Ytcjnmipmdnlkmaa.TabK
