/- wish.Parse at the chapter's example. -/
import Derived.Test.YtklgecdklngekaaGreatDoorWRd
import Derived.Test.YtklgecdklngekaaGreatDoorWFacts
namespace Go.Proofs.YtklgecdklngekaaGreatDoor.WParse
set_option linter.unusedVariables false
set_option linter.unusedSimpArgs false
open Go.RowKit Go.Proofs.YtklgecdklngekaaGreatDoorW.PrintWords Go.Proofs.YtklgecdklngekaaGreatDoorW.PrintLast Go.Proofs.YtklgecdklngekaaGreatDoor.Q Go.Proofs.YtklgecdklngekaaGreatDoor.WRd
theorem Fr.blk {W W1 : World} {rb k : Nat} {o : Obj} (h : Fr W W1 rb) (hk : W.heap[k]? = some o) (hn : k ≠ rb) : W1.heap[k]? = some o := (h.block k (blk_lt hk) hn).trans hk
theorem rd_of_R {W : World} {b : Nat} {v : Value} {l : List ByteArray} (hl : 0 < l.length) (h : Kd.R Kd.string 9 W b (fun _ => True) v l) : ∃ (sb cap : Nat), v = .slice (some ⟨sb, 0, none⟩) l.length cap ∧ b ≤ sb ∧ sb < W.heap.size ∧
    Rd (W.alloc (.cells #[.slice (some ⟨sb, 0, none⟩) l.length cap, .bool false] 79)) W.heap.size l false := by
  obtain ⟨_, h0 | ⟨sb, cap, cur, rfl, hB, hblk, hn, hcap, hsz, htake⟩⟩ := Kd.own_of_R h
  · omega
  · refine ⟨sb, cap, rfl, hB, blk_lt hblk, sb, 0, cur, cap, blk_new _ _, blk_alloc hblk _, hn, fun j s hj => ?_⟩
    have h1 : (cur.toList.take (l.length * 1))[j]? = some (.string s) := by rw [htake]; unfold encs; rw [List.getElem?_map, hj]; rfl
    rw [Nat.zero_add]
    rw [List.getElem?_take] at h1
    split at h1
    · rw [← Array.getElem?_toList]; exact h1
    · cases h1
set_option maxHeartbeats 8000000 in
set_option maxRecDepth 100000 in
theorem parse_c (W : World) : Calls Tryz.prog 11 #[.agg #[.int .i64 4, .int .i64 5, .int .i64 40], .string WFacts.line] W fun e w' => e = .returned (.tuple #[.agg #[.int .i64 1, .int .i64 0, .int .i64 0, .int .u32 7, .int .u8 1, .int .i64 16, .int .i64 4, .int .i64 0, .slice none 0 0, .int .i64 0, .int .i64 0, .bool false, .int .i64 0], .int .i64 0]) ∧ Below W.heap.size W w' := by
  have hu31 := Tryz.underlying31
  have hu61 := Tryz.underlying61
  have hu36 := Tryz.underlying36
  have hu25 := Tryz.underlying25
  have hu79 := Tryz.underlying79
  go_enter Tryz.func11, Tryz.ntmps11
  go_wp2_with fail
  have HG2 := Lib.hid (blk_alloc (blk_new W (.cells #[.int .i64 4, .int .i64 5, .int .i64 40] 36)) (.cells #[.int .i64 0, .int .i64 0, .int .i64 0, .int .u32 0, .int .u8 0, .int .i64 0, .int .i64 0, .int .i64 0, .slice none 0 0, .int .i64 0, .int .i64 0, .bool false, .int .i64 0] 31))
  have ht2 := blk_new (W.alloc (.cells #[.int .i64 4, .int .i64 5, .int .i64 40] 36)) (.cells #[.int .i64 0, .int .i64 0, .int .i64 0, .int .u32 0, .int .u8 0, .int .i64 0, .int .i64 0, .int .i64 0, .slice none 0 0, .int .i64 0, .int .i64 0, .bool false, .int .i64 0] 31)
  rw [World.size_alloc] at ht2
  have HT2 := Lib.hid ht2
  have HB2 := Lib.hid (below_alloc (below_alloc (Below.refl W.heap.size W) (.cells #[.int .i64 4, .int .i64 5, .int .i64 40] 36)) (.cells #[.int .i64 0, .int .i64 0, .int .i64 0, .int .u32 0, .int .u8 0, .int .i64 0, .int .i64 0, .int .i64 0, .slice none 0 0, .int .i64 0, .int .i64 0, .bool false, .int .i64 0] 31))
  clear ht2
  generalize (W.alloc (.cells #[.int .i64 4, .int .i64 5, .int .i64 40] 36)).alloc (.cells #[.int .i64 0, .int .i64 0, .int .i64 0, .int .u32 0, .int .u8 0, .int .i64 0, .int .i64 0, .int .i64 0, .slice none 0 0, .int .i64 0, .int .i64 0, .bool false, .int .i64 0] 31) = W2 at *
  refine (word_Split.calls _ _ _ _ W2 WFacts.split).mono ?_
  rintro e W3 ⟨v0, rfl, hR3, hb3⟩
  obtain ⟨sb, cap, rfl, hsb1, hsb2, hrd⟩ := rd_of_R (by decide) hR3
  have HG3 := Lib.hid (blk_below HG2.out hb3)
  have HT3 := Lib.hid (blk_below HT2.out hb3)
  have HB3 := Lib.hid (below_step HB2.out hb3)
  have HR3 := Lib.hid hrd
  have hgl := blk_lt HG3.out
  have htl := blk_lt HT3.out
  clear hR3 hb3 hrd HG2 HT2 HB2
  rw [show [WFacts.away, WFacts.zero, WFacts.wks, WFacts.m, WFacts.slots].length = 5 from rfl] at *
  go_wp2_with fail
  have HG4 := Lib.hid (blk_alloc HG3.out (.cells #[.slice (some ⟨sb, 0, none⟩) 5 cap, .bool false] 79))
  have HT4 := Lib.hid (blk_alloc HT3.out (.cells #[.slice (some ⟨sb, 0, none⟩) 5 cap, .bool false] 79))
  have HB4 := Lib.hid (below_step HB3.out (below_alloc (Below.refl _ _) (.cells #[.slice (some ⟨sb, 0, none⟩) 5 cap, .bool false] 79)))
  have hgr : W.heap.size ≠ W3.heap.size := by omega
  have htr : W.heap.size + 1 ≠ W3.heap.size := by omega
  have hwr : W.heap.size ≤ W3.heap.size := by omega
  clear HG3 HT3 HB3
  generalize W3.alloc (.cells #[.slice (some ⟨sb, 0, none⟩) 5 cap, .bool false] 79) = W4 at *
  generalize W3.heap.size = rb at *
  refine (next_c W4 rb WFacts.away [WFacts.zero, WFacts.wks, WFacts.m, WFacts.slots] (by decide) false HR3.out).mono ?_
  rintro e W5 ⟨rfl, v, rfl, HR5⟩
  have HF5 : Hid (Fr W4 (W4.setCell ⟨rb, 0, none⟩ v) rb) := (Fr.refl _ _).set rb 0 (.inl rfl) v
  have HG5 := Lib.hid (Fr.blk HF5.out HG4.out hgr)
  have HT5 := Lib.hid (Fr.blk HF5.out HT4.out htr)
  have HB5 := Lib.hid (Fr.below HB4.out HF5.out hwr)
  clear HF5 HG4 HT4 HB4 HR3
  generalize W4.setCell ⟨rb, 0, none⟩ v = W5 at *
  go_wp2_with fail
  refine (wish_kindOf.calls _ _ _ _ _ _ _ _ _ W5 WFacts.kind).mono ?_
  rintro e W6 ⟨rfl, hb6⟩
  have HG6 := Lib.hid (blk_below HG5.out hb6)
  have HT6 := Lib.hid (blk_below HT5.out hb6)
  have HB6 := Lib.hid (below_step HB5.out hb6)
  have HR6 := Lib.hid (HR5.out.below hb6)
  clear hb6 HG5 HT5 HB5 HR5
  go_wp2_with fail
  have hrl := HR6.out.lt
  have hgl6 := blk_lt HG6.out
  have htl6 := blk_lt HT6.out
  have HG7 := Lib.hid (blk_alloc (blk_alloc HG6.out (.cells #[.string WFacts.away, .bool true, .bool false, .bool true, .bool false] 61)) (.cells #[.int .i64 1, .int .i64 0, .int .i64 0, .int .u32 0, .int .u8 0, .int .i64 0, .int .i64 0, .int .i64 0, .slice none 0 0, .int .i64 0, .int .i64 0, .bool false, .int .i64 0] 31))
  have HT7 := Lib.hid (blk_alloc (blk_alloc HT6.out (.cells #[.string WFacts.away, .bool true, .bool false, .bool true, .bool false] 61)) (.cells #[.int .i64 1, .int .i64 0, .int .i64 0, .int .u32 0, .int .u8 0, .int .i64 0, .int .i64 0, .int .i64 0, .slice none 0 0, .int .i64 0, .int .i64 0, .bool false, .int .i64 0] 31))
  have HF7 := Lib.hid (blk_alloc (blk_new W6 (.cells #[.string WFacts.away, .bool true, .bool false, .bool true, .bool false] 61)) (.cells #[.int .i64 1, .int .i64 0, .int .i64 0, .int .u32 0, .int .u8 0, .int .i64 0, .int .i64 0, .int .i64 0, .slice none 0 0, .int .i64 0, .int .i64 0, .bool false, .int .i64 0] 31))
  have hw7 := blk_new (W6.alloc (.cells #[.string WFacts.away, .bool true, .bool false, .bool true, .bool false] 61)) (.cells #[.int .i64 1, .int .i64 0, .int .i64 0, .int .u32 0, .int .u8 0, .int .i64 0, .int .i64 0, .int .i64 0, .slice none 0 0, .int .i64 0, .int .i64 0, .bool false, .int .i64 0] 31)
  rw [World.size_alloc] at hw7
  have HW7 := Lib.hid hw7
  have HR7 := Lib.hid (HR6.out.below (below_alloc (below_alloc (Below.refl _ _) (.cells #[.string WFacts.away, .bool true, .bool false, .bool true, .bool false] 61)) (.cells #[.int .i64 1, .int .i64 0, .int .i64 0, .int .u32 0, .int .u8 0, .int .i64 0, .int .i64 0, .int .i64 0, .slice none 0 0, .int .i64 0, .int .i64 0, .bool false, .int .i64 0] 31)))
  have HB7 := Lib.hid (below_step HB6.out (below_alloc (below_alloc (Below.refl _ _) (.cells #[.string WFacts.away, .bool true, .bool false, .bool true, .bool false] 61)) (.cells #[.int .i64 1, .int .i64 0, .int .i64 0, .int .u32 0, .int .u8 0, .int .i64 0, .int .i64 0, .int .i64 0, .slice none 0 0, .int .i64 0, .int .i64 0, .bool false, .int .i64 0] 31)))
  have hfr : W6.heap.size ≠ rb := by omega
  have hwr2 : W6.heap.size + 1 ≠ rb := by omega
  have hwt : W6.heap.size + 1 ≠ W.heap.size + 1 := by omega
  have hwg : W.heap.size ≠ W6.heap.size + 1 := by omega
  have hwf : W6.heap.size ≠ W6.heap.size + 1 := by omega
  have hWw : W.heap.size ≤ W6.heap.size + 1 := by omega
  clear hw7 HG6 HT6 HR6 HB6
  generalize (W6.alloc (.cells #[.string WFacts.away, .bool true, .bool false, .bool true, .bool false] 61)).alloc (.cells #[.int .i64 1, .int .i64 0, .int .i64 0, .int .u32 0, .int .u8 0, .int .i64 0, .int .i64 0, .int .i64 0, .slice none 0 0, .int .i64 0, .int .i64 0, .bool false, .int .i64 0] 31) = W7 at *
  refine (number_c W7 rb WFacts.zero [WFacts.wks, WFacts.m, WFacts.slots] (by decide) HR7.out 40 0 WFacts.num).mono ?_
  rintro e W8 ⟨rfl, HR8, HFr8⟩
  have HG8 := Lib.hid (Fr.blk HFr8.out HG7.out hgr)
  have HT8 := Lib.hid (Fr.blk HFr8.out HT7.out htr)
  have HF8 := Lib.hid (Fr.blk HFr8.out HF7.out hfr)
  have HW8 := Lib.hid (Fr.blk HFr8.out HW7.out hwr2)
  have HB8 := Lib.hid (Fr.below HB7.out HFr8.out hwr)
  clear HG7 HT7 HF7 HW7 HB7 HR7 HFr8
  have f2 : (W8.setCell ⟨W6.heap.size + 1, 1, none⟩ (.int .i64 0)).cell? ⟨W6.heap.size, 2, none⟩ = some (.bool false) := (blk_cell ((Below.heap_setCell _ ⟨W6.heap.size + 1, 1, none⟩ _ W6.heap.size hwf).trans HF8.out) 2).trans rfl
  have f3 : (W8.setCell ⟨W6.heap.size + 1, 1, none⟩ (.int .i64 0)).cell? ⟨W6.heap.size, 3, none⟩ = some (.bool true) := (blk_cell ((Below.heap_setCell _ ⟨W6.heap.size + 1, 1, none⟩ _ W6.heap.size hwf).trans HF8.out) 3).trans rfl
  have w1 : W8.cell? ⟨W6.heap.size + 1, 1, none⟩ = some (.int .i64 0) := (blk_cell HW8.out 1).trans rfl
  have y1 : W8.frozen? ⟨W6.heap.size + 1, 1, none⟩ = false := blk_frozen HW8.out 1
  have g0 : (W8.setCell ⟨W6.heap.size + 1, 1, none⟩ (.int .i64 0)).cell? ⟨W.heap.size, 0, none⟩ = some (.int .i64 4) := (blk_cell ((Below.heap_setCell _ ⟨W6.heap.size + 1, 1, none⟩ _ W.heap.size hwg).trans HG8.out) 0).trans rfl
  have g1 : (W8.setCell ⟨W6.heap.size + 1, 1, none⟩ (.int .i64 0)).cell? ⟨W.heap.size, 1, none⟩ = some (.int .i64 5) := (blk_cell ((Below.heap_setCell _ ⟨W6.heap.size + 1, 1, none⟩ _ W.heap.size hwg).trans HG8.out) 1).trans rfl
  have g2 : (W8.setCell ⟨W6.heap.size + 1, 1, none⟩ (.int .i64 0)).cell? ⟨W.heap.size, 2, none⟩ = some (.int .i64 40) := (blk_cell ((Below.heap_setCell _ ⟨W6.heap.size + 1, 1, none⟩ _ W.heap.size hwg).trans HG8.out) 2).trans rfl
  go_wp2_with fail
  have HT9 := Lib.hid ((Below.heap_setCell _ ⟨W6.heap.size + 1, 1, none⟩ (.int .i64 0) (W.heap.size + 1) (Ne.symm hwt)).trans HT8.out)
  have HF9 := Lib.hid ((Below.heap_setCell _ ⟨W6.heap.size + 1, 1, none⟩ (.int .i64 0) W6.heap.size hwf).trans HF8.out)
  have HW9 : Hid ((W8.setCell ⟨W6.heap.size + 1, 1, none⟩ (.int .i64 0)).heap[W6.heap.size + 1]? = some (.cells #[.int .i64 1, .int .i64 0, .int .i64 0, .int .u32 0, .int .u8 0, .int .i64 0, .int .i64 0, .int .i64 0, .slice none 0 0, .int .i64 0, .int .i64 0, .bool false, .int .i64 0] 31 (0, 0))) := blk_set HW8.out 1 _
  have HR9 := Lib.hid (HR8.out.farT (by decide) (by decide) _ HW8.out 1 (.int .i64 0))
  have HB9 := Lib.hid (HB8.out.setCell (p := ⟨W6.heap.size + 1, 1, none⟩) hWw (.int .i64 0))
  clear f2 f3 w1 y1 g0 g1 g2 HG8 HT8 HF8 HW8 HB8 HR8
  generalize W8.setCell ⟨W6.heap.size + 1, 1, none⟩ (.int .i64 0) = W9 at *
  refine (time_c W9 rb 4 5 40 WFacts.wks WFacts.m WFacts.slots (by decide) [] (by decide) HR9.out 60 7 1 16 4 WFacts.parse).mono ?_
  rintro e Wa ⟨rfl, HRa, HFra⟩
  have HTa := Lib.hid (Fr.blk HFra.out HT9.out htr)
  have HFa := Lib.hid (Fr.blk HFra.out HF9.out hfr)
  have HWa := Lib.hid (Fr.blk HFra.out HW9.out hwr2)
  have HBa := Lib.hid (Fr.below HB9.out HFra.out hwr)
  clear HT9 HF9 HW9 HB9 HR9 HFra
  have w3 : Wa.cell? ⟨W6.heap.size + 1, 3, none⟩ = some (.int .u32 0) := (blk_cell HWa.out 3).trans rfl
  have y3 : Wa.frozen? ⟨W6.heap.size + 1, 3, none⟩ = false := blk_frozen HWa.out 3
  have w4 : Wa.cell? ⟨W6.heap.size + 1, 4, none⟩ = some (.int .u8 0) := (blk_cell HWa.out 4).trans rfl
  have y4 : Wa.frozen? ⟨W6.heap.size + 1, 4, none⟩ = false := blk_frozen HWa.out 4
  have w5 : Wa.cell? ⟨W6.heap.size + 1, 5, none⟩ = some (.int .i64 0) := (blk_cell HWa.out 5).trans rfl
  have y5 : Wa.frozen? ⟨W6.heap.size + 1, 5, none⟩ = false := blk_frozen HWa.out 5
  have w6 : Wa.cell? ⟨W6.heap.size + 1, 6, none⟩ = some (.int .i64 0) := (blk_cell HWa.out 6).trans rfl
  have y6 : Wa.frozen? ⟨W6.heap.size + 1, 6, none⟩ = false := blk_frozen HWa.out 6
  have hWX : ((((Wa.setCell ⟨W6.heap.size + 1, 3, none⟩ (.int .u32 7)).setCell ⟨W6.heap.size + 1, 4, none⟩ (.int .u8 1)).setCell ⟨W6.heap.size + 1, 5, none⟩ (.int .i64 16)).setCell ⟨W6.heap.size + 1, 6, none⟩ (.int .i64 4)).heap[W6.heap.size + 1]? = some (.cells #[.int .i64 1, .int .i64 0, .int .i64 0, .int .u32 7, .int .u8 1, .int .i64 16, .int .i64 4, .int .i64 0, .slice none 0 0, .int .i64 0, .int .i64 0, .bool false, .int .i64 0] 31 (0, 0)) := blk_set (blk_set (blk_set (blk_set HWa.out 3 _) 4 _) 5 _) 6 _
  have hFX : ((((Wa.setCell ⟨W6.heap.size + 1, 3, none⟩ (.int .u32 7)).setCell ⟨W6.heap.size + 1, 4, none⟩ (.int .u8 1)).setCell ⟨W6.heap.size + 1, 5, none⟩ (.int .i64 16)).setCell ⟨W6.heap.size + 1, 6, none⟩ (.int .i64 4)).heap[W6.heap.size]? = some (.cells #[.string WFacts.away, .bool true, .bool false, .bool true, .bool false] 61 (0, 0)) := (Below.heap_setCell _ ⟨W6.heap.size + 1, 6, none⟩ _ W6.heap.size hwf).trans ((Below.heap_setCell _ ⟨W6.heap.size + 1, 5, none⟩ _ W6.heap.size hwf).trans ((Below.heap_setCell _ ⟨W6.heap.size + 1, 4, none⟩ _ W6.heap.size hwf).trans ((Below.heap_setCell _ ⟨W6.heap.size + 1, 3, none⟩ _ W6.heap.size hwf).trans (HFa.out))))
  have hTX : ((((Wa.setCell ⟨W6.heap.size + 1, 3, none⟩ (.int .u32 7)).setCell ⟨W6.heap.size + 1, 4, none⟩ (.int .u8 1)).setCell ⟨W6.heap.size + 1, 5, none⟩ (.int .i64 16)).setCell ⟨W6.heap.size + 1, 6, none⟩ (.int .i64 4)).heap[W.heap.size + 1]? = some (.cells #[.int .i64 0, .int .i64 0, .int .i64 0, .int .u32 0, .int .u8 0, .int .i64 0, .int .i64 0, .int .i64 0, .slice none 0 0, .int .i64 0, .int .i64 0, .bool false, .int .i64 0] 31 (0, 0)) := (Below.heap_setCell _ ⟨W6.heap.size + 1, 6, none⟩ _ (W.heap.size + 1) (Ne.symm hwt)).trans ((Below.heap_setCell _ ⟨W6.heap.size + 1, 5, none⟩ _ (W.heap.size + 1) (Ne.symm hwt)).trans ((Below.heap_setCell _ ⟨W6.heap.size + 1, 4, none⟩ _ (W.heap.size + 1) (Ne.symm hwt)).trans ((Below.heap_setCell _ ⟨W6.heap.size + 1, 3, none⟩ _ (W.heap.size + 1) (Ne.symm hwt)).trans (HTa.out))))
  have hRX : Rd ((((Wa.setCell ⟨W6.heap.size + 1, 3, none⟩ (.int .u32 7)).setCell ⟨W6.heap.size + 1, 4, none⟩ (.int .u8 1)).setCell ⟨W6.heap.size + 1, 5, none⟩ (.int .i64 16)).setCell ⟨W6.heap.size + 1, 6, none⟩ (.int .i64 4)) rb [] false := ((((HRa.out).farT (by decide) (by decide) _ (HWa.out) 3 _).farT (by decide) (by decide) _ (blk_set (HWa.out) 3 _) 4 _).farT (by decide) (by decide) _ (blk_set (blk_set (HWa.out) 3 _) 4 _) 5 _).farT (by decide) (by decide) _ (blk_set (blk_set (blk_set (HWa.out) 3 _) 4 _) 5 _) 6 _
  have hBX : Below W.heap.size W ((((Wa.setCell ⟨W6.heap.size + 1, 3, none⟩ (.int .u32 7)).setCell ⟨W6.heap.size + 1, 4, none⟩ (.int .u8 1)).setCell ⟨W6.heap.size + 1, 5, none⟩ (.int .i64 16)).setCell ⟨W6.heap.size + 1, 6, none⟩ (.int .i64 4)) := ((((HBa.out).setCell (p := ⟨W6.heap.size + 1, 3, none⟩) hWw _).setCell (p := ⟨W6.heap.size + 1, 4, none⟩) hWw _).setCell (p := ⟨W6.heap.size + 1, 5, none⟩) hWw _).setCell (p := ⟨W6.heap.size + 1, 6, none⟩) hWw _
  obtain ⟨Ar, cr, r0, r1⟩ := hRX.ends
  have x4 : ((((Wa.setCell ⟨W6.heap.size + 1, 3, none⟩ (.int .u32 7)).setCell ⟨W6.heap.size + 1, 4, none⟩ (.int .u8 1)).setCell ⟨W6.heap.size + 1, 5, none⟩ (.int .i64 16)).setCell ⟨W6.heap.size + 1, 6, none⟩ (.int .i64 4)).cell? ⟨W6.heap.size, 4, none⟩ = some (.bool false) := (blk_cell hFX 4).trans rfl
  have p0 : ((((Wa.setCell ⟨W6.heap.size + 1, 3, none⟩ (.int .u32 7)).setCell ⟨W6.heap.size + 1, 4, none⟩ (.int .u8 1)).setCell ⟨W6.heap.size + 1, 5, none⟩ (.int .i64 16)).setCell ⟨W6.heap.size + 1, 6, none⟩ (.int .i64 4)).cell? ⟨W6.heap.size + 1, 0, none⟩ = some (.int .i64 1) := (blk_cell hWX 0).trans rfl
  have q0 : ((((Wa.setCell ⟨W6.heap.size + 1, 3, none⟩ (.int .u32 7)).setCell ⟨W6.heap.size + 1, 4, none⟩ (.int .u8 1)).setCell ⟨W6.heap.size + 1, 5, none⟩ (.int .i64 16)).setCell ⟨W6.heap.size + 1, 6, none⟩ (.int .i64 4)).cell? ⟨W.heap.size + 1, 0, none⟩ = some (.int .i64 0) := (blk_cell hTX 0).trans rfl
  have s0 : ((((Wa.setCell ⟨W6.heap.size + 1, 3, none⟩ (.int .u32 7)).setCell ⟨W6.heap.size + 1, 4, none⟩ (.int .u8 1)).setCell ⟨W6.heap.size + 1, 5, none⟩ (.int .i64 16)).setCell ⟨W6.heap.size + 1, 6, none⟩ (.int .i64 4)).frozen? ⟨W.heap.size + 1, 0, none⟩ = false := blk_frozen hTX 0
  have p1 : ((((Wa.setCell ⟨W6.heap.size + 1, 3, none⟩ (.int .u32 7)).setCell ⟨W6.heap.size + 1, 4, none⟩ (.int .u8 1)).setCell ⟨W6.heap.size + 1, 5, none⟩ (.int .i64 16)).setCell ⟨W6.heap.size + 1, 6, none⟩ (.int .i64 4)).cell? ⟨W6.heap.size + 1, 1, none⟩ = some (.int .i64 0) := (blk_cell hWX 1).trans rfl
  have q1 : ((((Wa.setCell ⟨W6.heap.size + 1, 3, none⟩ (.int .u32 7)).setCell ⟨W6.heap.size + 1, 4, none⟩ (.int .u8 1)).setCell ⟨W6.heap.size + 1, 5, none⟩ (.int .i64 16)).setCell ⟨W6.heap.size + 1, 6, none⟩ (.int .i64 4)).cell? ⟨W.heap.size + 1, 1, none⟩ = some (.int .i64 0) := (blk_cell hTX 1).trans rfl
  have s1 : ((((Wa.setCell ⟨W6.heap.size + 1, 3, none⟩ (.int .u32 7)).setCell ⟨W6.heap.size + 1, 4, none⟩ (.int .u8 1)).setCell ⟨W6.heap.size + 1, 5, none⟩ (.int .i64 16)).setCell ⟨W6.heap.size + 1, 6, none⟩ (.int .i64 4)).frozen? ⟨W.heap.size + 1, 1, none⟩ = false := blk_frozen hTX 1
  have p2 : ((((Wa.setCell ⟨W6.heap.size + 1, 3, none⟩ (.int .u32 7)).setCell ⟨W6.heap.size + 1, 4, none⟩ (.int .u8 1)).setCell ⟨W6.heap.size + 1, 5, none⟩ (.int .i64 16)).setCell ⟨W6.heap.size + 1, 6, none⟩ (.int .i64 4)).cell? ⟨W6.heap.size + 1, 2, none⟩ = some (.int .i64 0) := (blk_cell hWX 2).trans rfl
  have q2 : ((((Wa.setCell ⟨W6.heap.size + 1, 3, none⟩ (.int .u32 7)).setCell ⟨W6.heap.size + 1, 4, none⟩ (.int .u8 1)).setCell ⟨W6.heap.size + 1, 5, none⟩ (.int .i64 16)).setCell ⟨W6.heap.size + 1, 6, none⟩ (.int .i64 4)).cell? ⟨W.heap.size + 1, 2, none⟩ = some (.int .i64 0) := (blk_cell hTX 2).trans rfl
  have s2 : ((((Wa.setCell ⟨W6.heap.size + 1, 3, none⟩ (.int .u32 7)).setCell ⟨W6.heap.size + 1, 4, none⟩ (.int .u8 1)).setCell ⟨W6.heap.size + 1, 5, none⟩ (.int .i64 16)).setCell ⟨W6.heap.size + 1, 6, none⟩ (.int .i64 4)).frozen? ⟨W.heap.size + 1, 2, none⟩ = false := blk_frozen hTX 2
  have p3 : ((((Wa.setCell ⟨W6.heap.size + 1, 3, none⟩ (.int .u32 7)).setCell ⟨W6.heap.size + 1, 4, none⟩ (.int .u8 1)).setCell ⟨W6.heap.size + 1, 5, none⟩ (.int .i64 16)).setCell ⟨W6.heap.size + 1, 6, none⟩ (.int .i64 4)).cell? ⟨W6.heap.size + 1, 3, none⟩ = some (.int .u32 7) := (blk_cell hWX 3).trans rfl
  have q3 : ((((Wa.setCell ⟨W6.heap.size + 1, 3, none⟩ (.int .u32 7)).setCell ⟨W6.heap.size + 1, 4, none⟩ (.int .u8 1)).setCell ⟨W6.heap.size + 1, 5, none⟩ (.int .i64 16)).setCell ⟨W6.heap.size + 1, 6, none⟩ (.int .i64 4)).cell? ⟨W.heap.size + 1, 3, none⟩ = some (.int .u32 0) := (blk_cell hTX 3).trans rfl
  have s3 : ((((Wa.setCell ⟨W6.heap.size + 1, 3, none⟩ (.int .u32 7)).setCell ⟨W6.heap.size + 1, 4, none⟩ (.int .u8 1)).setCell ⟨W6.heap.size + 1, 5, none⟩ (.int .i64 16)).setCell ⟨W6.heap.size + 1, 6, none⟩ (.int .i64 4)).frozen? ⟨W.heap.size + 1, 3, none⟩ = false := blk_frozen hTX 3
  have p4 : ((((Wa.setCell ⟨W6.heap.size + 1, 3, none⟩ (.int .u32 7)).setCell ⟨W6.heap.size + 1, 4, none⟩ (.int .u8 1)).setCell ⟨W6.heap.size + 1, 5, none⟩ (.int .i64 16)).setCell ⟨W6.heap.size + 1, 6, none⟩ (.int .i64 4)).cell? ⟨W6.heap.size + 1, 4, none⟩ = some (.int .u8 1) := (blk_cell hWX 4).trans rfl
  have q4 : ((((Wa.setCell ⟨W6.heap.size + 1, 3, none⟩ (.int .u32 7)).setCell ⟨W6.heap.size + 1, 4, none⟩ (.int .u8 1)).setCell ⟨W6.heap.size + 1, 5, none⟩ (.int .i64 16)).setCell ⟨W6.heap.size + 1, 6, none⟩ (.int .i64 4)).cell? ⟨W.heap.size + 1, 4, none⟩ = some (.int .u8 0) := (blk_cell hTX 4).trans rfl
  have s4 : ((((Wa.setCell ⟨W6.heap.size + 1, 3, none⟩ (.int .u32 7)).setCell ⟨W6.heap.size + 1, 4, none⟩ (.int .u8 1)).setCell ⟨W6.heap.size + 1, 5, none⟩ (.int .i64 16)).setCell ⟨W6.heap.size + 1, 6, none⟩ (.int .i64 4)).frozen? ⟨W.heap.size + 1, 4, none⟩ = false := blk_frozen hTX 4
  have p5 : ((((Wa.setCell ⟨W6.heap.size + 1, 3, none⟩ (.int .u32 7)).setCell ⟨W6.heap.size + 1, 4, none⟩ (.int .u8 1)).setCell ⟨W6.heap.size + 1, 5, none⟩ (.int .i64 16)).setCell ⟨W6.heap.size + 1, 6, none⟩ (.int .i64 4)).cell? ⟨W6.heap.size + 1, 5, none⟩ = some (.int .i64 16) := (blk_cell hWX 5).trans rfl
  have q5 : ((((Wa.setCell ⟨W6.heap.size + 1, 3, none⟩ (.int .u32 7)).setCell ⟨W6.heap.size + 1, 4, none⟩ (.int .u8 1)).setCell ⟨W6.heap.size + 1, 5, none⟩ (.int .i64 16)).setCell ⟨W6.heap.size + 1, 6, none⟩ (.int .i64 4)).cell? ⟨W.heap.size + 1, 5, none⟩ = some (.int .i64 0) := (blk_cell hTX 5).trans rfl
  have s5 : ((((Wa.setCell ⟨W6.heap.size + 1, 3, none⟩ (.int .u32 7)).setCell ⟨W6.heap.size + 1, 4, none⟩ (.int .u8 1)).setCell ⟨W6.heap.size + 1, 5, none⟩ (.int .i64 16)).setCell ⟨W6.heap.size + 1, 6, none⟩ (.int .i64 4)).frozen? ⟨W.heap.size + 1, 5, none⟩ = false := blk_frozen hTX 5
  have p6 : ((((Wa.setCell ⟨W6.heap.size + 1, 3, none⟩ (.int .u32 7)).setCell ⟨W6.heap.size + 1, 4, none⟩ (.int .u8 1)).setCell ⟨W6.heap.size + 1, 5, none⟩ (.int .i64 16)).setCell ⟨W6.heap.size + 1, 6, none⟩ (.int .i64 4)).cell? ⟨W6.heap.size + 1, 6, none⟩ = some (.int .i64 4) := (blk_cell hWX 6).trans rfl
  have q6 : ((((Wa.setCell ⟨W6.heap.size + 1, 3, none⟩ (.int .u32 7)).setCell ⟨W6.heap.size + 1, 4, none⟩ (.int .u8 1)).setCell ⟨W6.heap.size + 1, 5, none⟩ (.int .i64 16)).setCell ⟨W6.heap.size + 1, 6, none⟩ (.int .i64 4)).cell? ⟨W.heap.size + 1, 6, none⟩ = some (.int .i64 0) := (blk_cell hTX 6).trans rfl
  have s6 : ((((Wa.setCell ⟨W6.heap.size + 1, 3, none⟩ (.int .u32 7)).setCell ⟨W6.heap.size + 1, 4, none⟩ (.int .u8 1)).setCell ⟨W6.heap.size + 1, 5, none⟩ (.int .i64 16)).setCell ⟨W6.heap.size + 1, 6, none⟩ (.int .i64 4)).frozen? ⟨W.heap.size + 1, 6, none⟩ = false := blk_frozen hTX 6
  have p7 : ((((Wa.setCell ⟨W6.heap.size + 1, 3, none⟩ (.int .u32 7)).setCell ⟨W6.heap.size + 1, 4, none⟩ (.int .u8 1)).setCell ⟨W6.heap.size + 1, 5, none⟩ (.int .i64 16)).setCell ⟨W6.heap.size + 1, 6, none⟩ (.int .i64 4)).cell? ⟨W6.heap.size + 1, 7, none⟩ = some (.int .i64 0) := (blk_cell hWX 7).trans rfl
  have q7 : ((((Wa.setCell ⟨W6.heap.size + 1, 3, none⟩ (.int .u32 7)).setCell ⟨W6.heap.size + 1, 4, none⟩ (.int .u8 1)).setCell ⟨W6.heap.size + 1, 5, none⟩ (.int .i64 16)).setCell ⟨W6.heap.size + 1, 6, none⟩ (.int .i64 4)).cell? ⟨W.heap.size + 1, 7, none⟩ = some (.int .i64 0) := (blk_cell hTX 7).trans rfl
  have s7 : ((((Wa.setCell ⟨W6.heap.size + 1, 3, none⟩ (.int .u32 7)).setCell ⟨W6.heap.size + 1, 4, none⟩ (.int .u8 1)).setCell ⟨W6.heap.size + 1, 5, none⟩ (.int .i64 16)).setCell ⟨W6.heap.size + 1, 6, none⟩ (.int .i64 4)).frozen? ⟨W.heap.size + 1, 7, none⟩ = false := blk_frozen hTX 7
  have p8 : ((((Wa.setCell ⟨W6.heap.size + 1, 3, none⟩ (.int .u32 7)).setCell ⟨W6.heap.size + 1, 4, none⟩ (.int .u8 1)).setCell ⟨W6.heap.size + 1, 5, none⟩ (.int .i64 16)).setCell ⟨W6.heap.size + 1, 6, none⟩ (.int .i64 4)).cell? ⟨W6.heap.size + 1, 8, none⟩ = some (.slice none 0 0) := (blk_cell hWX 8).trans rfl
  have q8 : ((((Wa.setCell ⟨W6.heap.size + 1, 3, none⟩ (.int .u32 7)).setCell ⟨W6.heap.size + 1, 4, none⟩ (.int .u8 1)).setCell ⟨W6.heap.size + 1, 5, none⟩ (.int .i64 16)).setCell ⟨W6.heap.size + 1, 6, none⟩ (.int .i64 4)).cell? ⟨W.heap.size + 1, 8, none⟩ = some (.slice none 0 0) := (blk_cell hTX 8).trans rfl
  have s8 : ((((Wa.setCell ⟨W6.heap.size + 1, 3, none⟩ (.int .u32 7)).setCell ⟨W6.heap.size + 1, 4, none⟩ (.int .u8 1)).setCell ⟨W6.heap.size + 1, 5, none⟩ (.int .i64 16)).setCell ⟨W6.heap.size + 1, 6, none⟩ (.int .i64 4)).frozen? ⟨W.heap.size + 1, 8, none⟩ = false := blk_frozen hTX 8
  have p9 : ((((Wa.setCell ⟨W6.heap.size + 1, 3, none⟩ (.int .u32 7)).setCell ⟨W6.heap.size + 1, 4, none⟩ (.int .u8 1)).setCell ⟨W6.heap.size + 1, 5, none⟩ (.int .i64 16)).setCell ⟨W6.heap.size + 1, 6, none⟩ (.int .i64 4)).cell? ⟨W6.heap.size + 1, 9, none⟩ = some (.int .i64 0) := (blk_cell hWX 9).trans rfl
  have q9 : ((((Wa.setCell ⟨W6.heap.size + 1, 3, none⟩ (.int .u32 7)).setCell ⟨W6.heap.size + 1, 4, none⟩ (.int .u8 1)).setCell ⟨W6.heap.size + 1, 5, none⟩ (.int .i64 16)).setCell ⟨W6.heap.size + 1, 6, none⟩ (.int .i64 4)).cell? ⟨W.heap.size + 1, 9, none⟩ = some (.int .i64 0) := (blk_cell hTX 9).trans rfl
  have s9 : ((((Wa.setCell ⟨W6.heap.size + 1, 3, none⟩ (.int .u32 7)).setCell ⟨W6.heap.size + 1, 4, none⟩ (.int .u8 1)).setCell ⟨W6.heap.size + 1, 5, none⟩ (.int .i64 16)).setCell ⟨W6.heap.size + 1, 6, none⟩ (.int .i64 4)).frozen? ⟨W.heap.size + 1, 9, none⟩ = false := blk_frozen hTX 9
  have p10 : ((((Wa.setCell ⟨W6.heap.size + 1, 3, none⟩ (.int .u32 7)).setCell ⟨W6.heap.size + 1, 4, none⟩ (.int .u8 1)).setCell ⟨W6.heap.size + 1, 5, none⟩ (.int .i64 16)).setCell ⟨W6.heap.size + 1, 6, none⟩ (.int .i64 4)).cell? ⟨W6.heap.size + 1, 10, none⟩ = some (.int .i64 0) := (blk_cell hWX 10).trans rfl
  have q10 : ((((Wa.setCell ⟨W6.heap.size + 1, 3, none⟩ (.int .u32 7)).setCell ⟨W6.heap.size + 1, 4, none⟩ (.int .u8 1)).setCell ⟨W6.heap.size + 1, 5, none⟩ (.int .i64 16)).setCell ⟨W6.heap.size + 1, 6, none⟩ (.int .i64 4)).cell? ⟨W.heap.size + 1, 10, none⟩ = some (.int .i64 0) := (blk_cell hTX 10).trans rfl
  have s10 : ((((Wa.setCell ⟨W6.heap.size + 1, 3, none⟩ (.int .u32 7)).setCell ⟨W6.heap.size + 1, 4, none⟩ (.int .u8 1)).setCell ⟨W6.heap.size + 1, 5, none⟩ (.int .i64 16)).setCell ⟨W6.heap.size + 1, 6, none⟩ (.int .i64 4)).frozen? ⟨W.heap.size + 1, 10, none⟩ = false := blk_frozen hTX 10
  have p11 : ((((Wa.setCell ⟨W6.heap.size + 1, 3, none⟩ (.int .u32 7)).setCell ⟨W6.heap.size + 1, 4, none⟩ (.int .u8 1)).setCell ⟨W6.heap.size + 1, 5, none⟩ (.int .i64 16)).setCell ⟨W6.heap.size + 1, 6, none⟩ (.int .i64 4)).cell? ⟨W6.heap.size + 1, 11, none⟩ = some (.bool false) := (blk_cell hWX 11).trans rfl
  have q11 : ((((Wa.setCell ⟨W6.heap.size + 1, 3, none⟩ (.int .u32 7)).setCell ⟨W6.heap.size + 1, 4, none⟩ (.int .u8 1)).setCell ⟨W6.heap.size + 1, 5, none⟩ (.int .i64 16)).setCell ⟨W6.heap.size + 1, 6, none⟩ (.int .i64 4)).cell? ⟨W.heap.size + 1, 11, none⟩ = some (.bool false) := (blk_cell hTX 11).trans rfl
  have s11 : ((((Wa.setCell ⟨W6.heap.size + 1, 3, none⟩ (.int .u32 7)).setCell ⟨W6.heap.size + 1, 4, none⟩ (.int .u8 1)).setCell ⟨W6.heap.size + 1, 5, none⟩ (.int .i64 16)).setCell ⟨W6.heap.size + 1, 6, none⟩ (.int .i64 4)).frozen? ⟨W.heap.size + 1, 11, none⟩ = false := blk_frozen hTX 11
  have p12 : ((((Wa.setCell ⟨W6.heap.size + 1, 3, none⟩ (.int .u32 7)).setCell ⟨W6.heap.size + 1, 4, none⟩ (.int .u8 1)).setCell ⟨W6.heap.size + 1, 5, none⟩ (.int .i64 16)).setCell ⟨W6.heap.size + 1, 6, none⟩ (.int .i64 4)).cell? ⟨W6.heap.size + 1, 12, none⟩ = some (.int .i64 0) := (blk_cell hWX 12).trans rfl
  have q12 : ((((Wa.setCell ⟨W6.heap.size + 1, 3, none⟩ (.int .u32 7)).setCell ⟨W6.heap.size + 1, 4, none⟩ (.int .u8 1)).setCell ⟨W6.heap.size + 1, 5, none⟩ (.int .i64 16)).setCell ⟨W6.heap.size + 1, 6, none⟩ (.int .i64 4)).cell? ⟨W.heap.size + 1, 12, none⟩ = some (.int .i64 0) := (blk_cell hTX 12).trans rfl
  have s12 : ((((Wa.setCell ⟨W6.heap.size + 1, 3, none⟩ (.int .u32 7)).setCell ⟨W6.heap.size + 1, 4, none⟩ (.int .u8 1)).setCell ⟨W6.heap.size + 1, 5, none⟩ (.int .i64 16)).setCell ⟨W6.heap.size + 1, 6, none⟩ (.int .i64 4)).frozen? ⟨W.heap.size + 1, 12, none⟩ = false := blk_frozen hTX 12
  have HTX := Lib.hid hTX
  have HBX := Lib.hid hBX
  clear hWX hFX hTX hRX hBX
  go_wp2_with fail
  refine bodyPost_ret (results_ct rfl _ _ (W.heap.size + 1) 31 #[.int .i64 1, .int .i64 0, .int .i64 0, .int .u32 7, .int .u8 1, .int .i64 16, .int .i64 4, .int .i64 0, .slice none 0 0, .int .i64 0, .int .i64 0, .bool false, .int .i64 0] (0, 0) _ rfl (blk_set (blk_set (blk_set (blk_set (blk_set (blk_set (blk_set (blk_set (blk_set (blk_set (blk_set (blk_set (blk_set (HTX.out) 0 _) 1 _) 2 _) 3 _) 4 _) 5 _) 6 _) 7 _) 8 _) 9 _) 10 _) 11 _) 12 _) Tryz.underlying31 rfl (by kernel_rfl)) rfl ?_
  exact ⟨rfl, (((((((((((((HBX.out).setCell (p := ⟨W.heap.size + 1, 0, none⟩) (Nat.le_succ _) _).setCell (p := ⟨W.heap.size + 1, 1, none⟩) (Nat.le_succ _) _).setCell (p := ⟨W.heap.size + 1, 2, none⟩) (Nat.le_succ _) _).setCell (p := ⟨W.heap.size + 1, 3, none⟩) (Nat.le_succ _) _).setCell (p := ⟨W.heap.size + 1, 4, none⟩) (Nat.le_succ _) _).setCell (p := ⟨W.heap.size + 1, 5, none⟩) (Nat.le_succ _) _).setCell (p := ⟨W.heap.size + 1, 6, none⟩) (Nat.le_succ _) _).setCell (p := ⟨W.heap.size + 1, 7, none⟩) (Nat.le_succ _) _).setCell (p := ⟨W.heap.size + 1, 8, none⟩) (Nat.le_succ _) _).setCell (p := ⟨W.heap.size + 1, 9, none⟩) (Nat.le_succ _) _).setCell (p := ⟨W.heap.size + 1, 10, none⟩) (Nat.le_succ _) _).setCell (p := ⟨W.heap.size + 1, 11, none⟩) (Nat.le_succ _) _).setCell (p := ⟨W.heap.size + 1, 12, none⟩) (Nat.le_succ _) _⟩
end Go.Proofs.YtklgecdklngekaaGreatDoor.WParse
