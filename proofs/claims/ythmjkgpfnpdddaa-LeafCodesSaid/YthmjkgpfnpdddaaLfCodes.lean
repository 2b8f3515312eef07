/- The walk over LeafCodes. (s7/lfcodes.py writes it.) -/
import Derived.Test.YthmjkgpfnpdddaaLfWakes
import Derived.Test.YthmjkgpfnpdddaaLfRDec
import Derived.Test.YthmjkgpfnpdddaaLfRLvs
import Derived.Test.YthmjkgpfnpdddaaLfArg
namespace Go.Proofs.Ythmjkgpfnpdddaa
set_option linter.unusedSimpArgs false
set_option linter.unusedVariables false
open Go.RowKit Go.ChangeShapes Go.WideShapes Go.Sort

theorem one_ens (l : List EN) : ∀ u ∈ ens l, u.oneCell' = true := by
  intro u hu
  obtain ⟨x, -, hx⟩ := List.mem_flatMap.1 hu
  exact one_en x u hx
theorem lfDec_len (b : Blk) : (lfDec b).length ≤ 3 := by
  unfold lfDec
  split
  · rename_i h
    rw [enL, List.length_map, List.length_range]
    exact (isLf_parts h).1
  · simp
theorem rtDec_len (b : Blk) : (rtDec b).length ≤ 100 := by
  unfold rtDec
  split
  · rename_i h
    unfold isRt at h
    rw [Bool.and_eq_true, Bool.and_eq_true] at h
    exact (goodR_parts h.2.1).1.2
  · simp
set_option maxRecDepth 100000 in
theorem big_codes {A A' : Option Addr} {n c m c' : Nat} {b : Blk} (w : World) (h : 20 < n ∨ (¬ 20 < n ∧ 300 < m)) : Calls Try.prog 8 #[.slice A n c, .slice A' m c', bkv b] w (Ret w (.bool true)) := by
  unfold bkv
  obtain ⟨cb, hcb⟩ : ∃ q, (bvs b).toArray = q := ⟨_, rfl⟩
  rw [hcb]
  clear hcb
  go_enter Try.func8, Try.ntmps8
  have hbA : Below w.heap.size w (w.alloc (.cells cb 40)) := (Below.refl _ _).alloc (Nat.le_refl _) _
  rcases h with h | ⟨h, h'⟩
  · have q1 : (20 : Int) < (n : Int) := by omega
    go_wp2_with (first
      | (go_at_call 23; refine Calls.mono (wakes05_any _) ?_; rintro e W3 ⟨rfl, hb3⟩)
      | fail)
    go_ret
    exact Ret.mk rfl (bNext hbA hb3)
  · have q1 : ¬ (20 : Int) < (n : Int) := by omega
    have q2 : (300 : Int) < (m : Int) := by omega
    go_wp2_with (first
      | (go_at_call 23; refine Calls.mono (wakes05_any _) ?_; rintro e W3 ⟨rfl, hb3⟩)
      | fail)
    go_ret
    exact Ret.mk rfl (bNext hbA hb3)
attribute [-go_sem] Builtin.append_
set_option maxHeartbeats 16000000 in
set_option maxRecDepth 100000 in
theorem codes_core {A A' : Option Addr} {n c m c' : Nat} {l : List EN} {ps : List Int} {b : Blk} (w : World) (hl : LfAt w w.heap.size A n c l) (hp : IvAt w w.heap.size A' m c' ps) (hb : b.length = 128) (hn : n ≤ 20) (hm : m ≤ 300) :
    Calls Try.prog 8 #[.slice A n c, .slice A' m c', bkv b] w (Ret w (.bool true)) := by
  unfold bkv
  obtain ⟨cb, hcb⟩ : ∃ q, (bvs b).toArray = q := ⟨_, rfl⟩
  have hbi := bk_info hb
  rw [hcb] at hbi ⊢
  have HC := Lib.hid hcb
  clear hcb
  have hPl := lfEnc_len hl.ok
  have hRl := rtEnc_len ps
  have ld3 := lfDec_len b
  have rd3 := rtDec_len b
  have henc : ∀ W c, LfAt W W.heap.size A n c l → True := fun _ _ _ => trivial
  have ho1 := one_ens l
  have ho2 := one_ivs ps
  have hln := hl.len
  have hlm := hp.len
  obtain ⟨G, hG⟩ : ∃ q, goodE l = q := ⟨_, rfl⟩
  obtain ⟨P, hP⟩ : ∃ q, lfEnc l = q := ⟨_, rfl⟩
  obtain ⟨R, hR⟩ : ∃ q, rtEnc ps = q := ⟨_, rfl⟩
  obtain ⟨GR, hGR⟩ : ∃ q, goodR ps = q := ⟨_, rfl⟩
  rw [hP] at hPl
  rw [hR] at hRl
  obtain ⟨cp, hcp⟩ : ∃ q, (bvs P).toArray = q := ⟨_, rfl⟩
  obtain ⟨cr, hcr⟩ : ∃ q, (bvs R).toArray = q := ⟨_, rfl⟩
  have hpi := bk_info hPl
  have hri := bk_info hRl
  have hps := blk_sizes zblk_len hPl
  have hrs := blk_sizes zblk_len hRl
  have hp1 := all_oneCell_toArray (oneCell_bvs P)
  have hr1 := all_oneCell_toArray (oneCell_bvs R)
  have hq1 := fun W => blk_q hPl hPl W
  have hq2 := fun W => blk_q hRl hRl W
  simp only [beq_self_eq_true, hcp] at hq1
  simp only [beq_self_eq_true, hcr] at hq2
  have hbz := blkZ
  obtain ⟨zb, hzb⟩ : ∃ q, (bvs zblk).toArray = q := ⟨_, rfl⟩
  rw [hzb] at hbz hps hrs
  rw [hcp] at hpi hps hp1
  rw [hcr] at hri hrs hr1
  have hE1 : ∀ W A c, LfAt W W.heap.size A n c l → Calls Try.prog 24 #[.slice A n c] W (Ret W (.tuple #[.agg cp, .int .i64 (erE G)])) := fun W A c h => by
    have := lenc_any W h
    unfold bkv at this
    rw [hP, hG, hcp] at this
    exact this
  have hE2 : ∀ W A c, LfAt W W.heap.size A n c l → Calls Try.prog 25 #[.slice A n c] W (Ret W (.tuple #[.agg cp, .int .i64 (erE G)])) := fun W A c h => by
    have := rlenc_any W h (by omega)
    unfold bkv at this
    rw [hP, hG, hcp] at this
    exact this
  have hR1 : ∀ W A c, IvAt W W.heap.size A m c ps → Calls Try.prog 28 #[.slice A m c] W (Ret W (.tuple #[.agg cr, .int .i64 (erE GR)])) := fun W A c h => by
    have := root_any W h (by omega)
    unfold bkv at this
    rw [hR, hGR, hcr] at this
    exact this
  have hR2 : ∀ W A c, IvAt W W.heap.size A m c ps → Calls Try.prog 29 #[.slice A m c] W (Ret W (.tuple #[.agg cr, .int .i64 (erE GR)])) := fun W A c h => by
    have := rroot_any W h (by omega)
    unfold bkv at this
    rw [hR, hGR, hcr] at this
    exact this
  have hG1 : ∀ W A c, LfAt W W.heap.size A n c l → Calls Try.prog 32 #[.slice A n c] W (Ret W (.bool G)) := fun W A c h => by rw [← hG]; exact lgood_any W h
  have hG2 : ∀ W A c, LfAt W W.heap.size A n c l → Calls Try.prog 33 #[.slice A n c] W (Ret W (.bool G)) := fun W A c h => by rw [← hG]; exact rgood_any W h (by omega)
  obtain ⟨D, hD⟩ : ∃ q, lfDec b = q := ⟨_, rfl⟩
  obtain ⟨DR, hDR⟩ : ∃ q, rtDec b = q := ⟨_, rfl⟩
  obtain ⟨ED, hED⟩ : ∃ q, erE (isLf b) = q := ⟨_, rfl⟩
  obtain ⟨ER, hER⟩ : ∃ q, erE (isRt b) = q := ⟨_, rfl⟩
  have hD1 := fun W => ldec_any hb W
  have hD2 := fun W => rldec_any hb W
  have hL1 := fun W => lleaves_any hb W
  have hL2 := fun W => rleaves_any hb W
  unfold LDec bkv at hD1 hD2
  unfold LLvs bkv at hL1 hL2
  simp only [hD, hED, HC.out] at hD1 hD2
  simp only [hDR, hER, HC.out] at hL1 hL2
  rw [hD] at ld3
  rw [hDR] at rd3
  obtain ⟨EG, hEG⟩ : ∃ q, erE G = q := ⟨_, rfl⟩
  obtain ⟨EGR, hEGR⟩ : ∃ q, erE GR = q := ⟨_, rfl⟩
  simp only [hEG] at hE1 hE2
  simp only [hEGR] at hR1 hR2
  clear hG hP hR hGR hcp hcr hzb henc hD hDR hED hER hEG hEGR
  have HCT := Lib.hid (And.intro hE1 (And.intro hE2 (And.intro hR1 (And.intro hR2 (And.intro hG1 (And.intro hG2 (And.intro hD1 (And.intro hD2 (And.intro hL1 hL2)))))))))
  clear hE1 hE2 hR1 hR2 hG1 hG2 hD1 hD2 hL1 hL2
  have q1 : ¬ (20 : Int) < (n : Int) := by omega
  have q2 : ¬ (300 : Int) < (m : Int) := by omega
  go_enter Try.func8, Try.ntmps8
  go_upto_region 1 with (fail)
  obtain ⟨V, hV⟩ : ∃ q, w.alloc (.cells cb 40) = q := ⟨_, rfl⟩
  have y5 : V.heap[w.heap.size]? = some (.cells cb 40) := by rw [← hV]; exact heap_alloc_new _ _
  have hB : Below w.heap.size w V := by rw [← hV]; exact (Below.refl _ _).alloc (Nat.le_refl _) _
  rw [hV]
  clear hV
  have at0 := hl.nxt hB
  have iv0 := hp.nxt hB
  have hbA : Below V.heap.size V (V.alloc (.cells #[] 73)) := (Below.refl _ _).alloc (Nat.le_refl _) _
  have hs1 := at0.sl.below hbA
  have HA := Lib.hid (And.intro at0 (And.intro iv0 (And.intro y5 hB)))
  clear hl hp at0 iv0 y5 hB
  go_upto_region 3 with (fail)
  go_wp2_with (first
    | (at_builtin; refine wpList_app _ rfl (.tmp 34) (.tmp 35) 49 rfl (base := V.heap.size) Try.underlying49 elemE rfl (own_none' V V.heap.size 73 35 (Nat.le_refl _)) rfl hs1 ho1 (by simp only [maxLen]; omega) (by omega) (by simp) ?_; intro A7 c7 w7 hown hg hbb hat; simp only [Nat.zero_add, List.nil_append] at hown ⊢
       have hb7 := hbA.trans hbb
       have hi1 : Below w7.heap.size w7 (w7.alloc (.cells #[] 3)) := (Below.refl _ _).alloc (Nat.le_refl _) _
       have hs2 := (HA.out.2.1.sl.next hb7).below hi1
       clear hs1 hg hbb hat hbA)
    | (at_builtin; refine wpList_app _ rfl (.tmp 37) (.tmp 38) 50 rfl (base := w7.heap.size) Try.underlying50 elemI rfl (own_none' w7 w7.heap.size 3 1 (Nat.le_refl _)) rfl hs2 ho2 (by simp only [maxLen]; omega) (by omega) (by simp) ?_; intro A8 c8 w8 hown8 hg hbb hat; simp only [Nat.zero_add, List.nil_append] at hown8 ⊢)
    | fail)
  have hb8 := hi1.trans hbb
  have hb78 := hb7.trans (hb8.mono hb7.size)
  obtain ⟨_, _, e7, h7c, -⟩ := own_form hown
  cases e7
  obtain ⟨_, _, e8, h8c, -⟩ := own_form hown8
  cases e8
  obtain ⟨at0', iv0', y5', hB'⟩ := HA.out
  have at7 := (show LfAt w7 w7.heap.size A7 n c7 l from ⟨at0'.ok, at0'.len, Sl.of_own hown, h7c⟩).nxt hb8
  have iv8 : IvAt w8 w8.heap.size A8 m c8 ps := ⟨iv0'.wide, iv0'.len, Sl.of_own hown8, h8c⟩
  have at0 := at0'.nxt hb78
  have iv0 := iv0'.nxt hb78
  have y5 := bBlk hb78 (Array.getElem?_eq_some_iff.1 y5').1 y5'
  have hB := bNext hB' hb78
  clear at0' iv0' y5' hB' HA hb78 hb7 hb8 hi1 hbb hown hown8 hg hat hs2 h7c h8c
  have HP1 := Lib.hid (And.intro at0 (And.intro iv0 (And.intro y5 (And.intro hB (And.intro at7 iv8)))))
  clear at0 iv0 y5 hB at7 iv8
  have hc := HCT.out.1 _ _ _ HP1.out.2.2.2.2.1
  refine Calls.mono hc ?_
  rintro e w9 ⟨rfl, hb1⟩
  obtain ⟨Y9, hY9, y9, bY9⟩ := newRow w9 zb cp 40
  have hb := hb1.trans (bY9.mono hb1.size)
  obtain ⟨at0_o, iv0_o, y5_o, hB_o, at7_o, iv8_o⟩ := HP1.out
  have at0 := at0_o.nxt hb
  have iv0 := iv0_o.nxt hb
  have y5 := bBlk hb (Array.getElem?_eq_some_iff.1 y5_o).1 y5_o
  have hB := bNext hB_o hb
  have at7 := at7_o.nxt hb
  have iv8 := iv8_o.nxt hb
  clear at0_o iv0_o y5_o hB_o at7_o iv8_o HP1
  clear hb hb1 bY9 hc
  have HP2 := Lib.hid (And.intro at0 (And.intro iv0 (And.intro y5 (And.intro hB (And.intro at7 (And.intro iv8 y9))))))
  clear at0 iv0 y5 hB at7 iv8 y9
  go_upto_region 5 with (first
    | (refine wpList_new rfl hbz rfl ?_)
    | (refine wpList_store_row rfl 40 (.tmp 9) (.tmp 43) rfl _ cp rfl rfl _ zb (heap_alloc_new _ _) hpi hps hp1 ?_)
    | fail)
  try rw [hY9]
  clear hY9
  have hc := HCT.out.2.1 _ _ _ HP2.out.1
  go_wp2_with fail
  refine Calls.mono hc ?_
  rintro e w11 ⟨rfl, hb1⟩
  obtain ⟨Y11, hY11, y11, bY11⟩ := newRow w11 zb cp 40
  have hb := hb1.trans (bY11.mono hb1.size)
  obtain ⟨at0_o, iv0_o, y5_o, hB_o, at7_o, iv8_o, y9_o⟩ := HP2.out
  have at0 := at0_o.nxt hb
  have iv0 := iv0_o.nxt hb
  have y5 := bBlk hb (Array.getElem?_eq_some_iff.1 y5_o).1 y5_o
  have hB := bNext hB_o hb
  have at7 := at7_o.nxt hb
  have iv8 := iv8_o.nxt hb
  have y9 := bBlk hb (Array.getElem?_eq_some_iff.1 y9_o).1 y9_o
  clear at0_o iv0_o y5_o hB_o at7_o iv8_o y9_o HP2
  clear hb hb1 bY11 hc
  have HP3 := Lib.hid (And.intro at0 (And.intro iv0 (And.intro y5 (And.intro hB (And.intro at7 (And.intro iv8 (And.intro y9 y11)))))))
  clear at0 iv0 y5 hB at7 iv8 y9 y11
  go_upto_region 6 with (first
    | (refine wpList_new rfl hbz rfl ?_)
    | (refine wpList_store_row rfl 40 (.tmp 11) (.tmp 48) rfl _ cp rfl rfl _ zb (heap_alloc_new _ _) hpi hps hp1 ?_)
    | fail)
  try rw [hY11]
  clear hY11
  have hc := HCT.out.2.2.2.2.2.2.1 Y11
  have yb := HP3.out.2.2.1
  refine wp_region_lit ?_
  refine wpList_load_row rfl 40 (.tmp 5) rfl _ rfl _ cb (0, 0) _ yb Try.underlying40 rfl hbi ?_
  (try simp only [Act.put, List.setIfInBounds_toArray, List.set_cons_zero, List.set_cons_succ])
  clear yb
  go_wp2_with fail
  refine Calls.mono hc ?_
  rintro e w13 ⟨A13, n13, c13, rfl, at13, hb⟩
  clear hc
  obtain ⟨at0_o, iv0_o, y5_o, hB_o, at7_o, iv8_o, y9_o, y11_o⟩ := HP3.out
  have at0 := at0_o.nxt hb
  have iv0 := iv0_o.nxt hb
  have y5 := bBlk hb (Array.getElem?_eq_some_iff.1 y5_o).1 y5_o
  have hB := bNext hB_o hb
  have at7 := at7_o.nxt hb
  have iv8 := iv8_o.nxt hb
  have y9 := bBlk hb (Array.getElem?_eq_some_iff.1 y9_o).1 y9_o
  have y11 := bBlk hb (Array.getElem?_eq_some_iff.1 y11_o).1 y11_o
  clear at0_o iv0_o y5_o hB_o at7_o iv8_o y9_o y11_o HP3
  clear hb
  have HP4 := Lib.hid (And.intro at0 (And.intro iv0 (And.intro y5 (And.intro hB (And.intro at7 (And.intro iv8 (And.intro y9 (And.intro y11 at13))))))))
  clear at0 iv0 y5 hB at7 iv8 y9 y11 at13
  go_upto_region 7 with (fail)
  have hc := HCT.out.2.2.2.2.2.2.2.1 w13
  have yb := HP4.out.2.2.1
  refine wp_region_lit ?_
  refine wpList_load_row rfl 40 (.tmp 5) rfl _ rfl _ cb (0, 0) _ yb Try.underlying40 rfl hbi ?_
  (try simp only [Act.put, List.setIfInBounds_toArray, List.set_cons_zero, List.set_cons_succ])
  clear yb
  go_wp2_with fail
  refine Calls.mono hc ?_
  rintro e w15 ⟨A15, n15, c15, rfl, at15, hb⟩
  clear hc
  obtain ⟨at0_o, iv0_o, y5_o, hB_o, at7_o, iv8_o, y9_o, y11_o, at13_o⟩ := HP4.out
  have at0 := at0_o.nxt hb
  have iv0 := iv0_o.nxt hb
  have y5 := bBlk hb (Array.getElem?_eq_some_iff.1 y5_o).1 y5_o
  have hB := bNext hB_o hb
  have at7 := at7_o.nxt hb
  have iv8 := iv8_o.nxt hb
  have y9 := bBlk hb (Array.getElem?_eq_some_iff.1 y9_o).1 y9_o
  have y11 := bBlk hb (Array.getElem?_eq_some_iff.1 y11_o).1 y11_o
  have at13 := at13_o.nxt hb
  clear at0_o iv0_o y5_o hB_o at7_o iv8_o y9_o y11_o at13_o HP4
  clear hb
  have HP5 := Lib.hid (And.intro at0 (And.intro iv0 (And.intro y5 (And.intro hB (And.intro at7 (And.intro iv8 (And.intro y9 (And.intro y11 (And.intro at13 at15)))))))))
  clear at0 iv0 y5 hB at7 iv8 y9 y11 at13 at15
  go_upto_region 8 with (fail)
  have hc := HCT.out.2.2.1 _ _ _ HP5.out.2.2.2.2.2.1
  go_wp2_with fail
  refine Calls.mono hc ?_
  rintro e w17 ⟨rfl, hb1⟩
  obtain ⟨Y17, hY17, y17, bY17⟩ := newRow w17 zb cr 40
  have hb := hb1.trans (bY17.mono hb1.size)
  obtain ⟨at0_o, iv0_o, y5_o, hB_o, at7_o, iv8_o, y9_o, y11_o, at13_o, at15_o⟩ := HP5.out
  have at0 := at0_o.nxt hb
  have iv0 := iv0_o.nxt hb
  have y5 := bBlk hb (Array.getElem?_eq_some_iff.1 y5_o).1 y5_o
  have hB := bNext hB_o hb
  have at7 := at7_o.nxt hb
  have iv8 := iv8_o.nxt hb
  have y9 := bBlk hb (Array.getElem?_eq_some_iff.1 y9_o).1 y9_o
  have y11 := bBlk hb (Array.getElem?_eq_some_iff.1 y11_o).1 y11_o
  have at13 := at13_o.nxt hb
  have at15 := at15_o.nxt hb
  clear at0_o iv0_o y5_o hB_o at7_o iv8_o y9_o y11_o at13_o at15_o HP5
  clear hb hb1 bY17 hc
  have HP6 := Lib.hid (And.intro at0 (And.intro iv0 (And.intro y5 (And.intro hB (And.intro at7 (And.intro iv8 (And.intro y9 (And.intro y11 (And.intro at13 (And.intro at15 y17))))))))))
  clear at0 iv0 y5 hB at7 iv8 y9 y11 at13 at15 y17
  go_upto_region 9 with (first
    | (refine wpList_new rfl hbz rfl ?_)
    | (refine wpList_store_row rfl 40 (.tmp 17) (.tmp 63) rfl _ cr rfl rfl _ zb (heap_alloc_new _ _) hri hrs hr1 ?_)
    | fail)
  try rw [hY17]
  clear hY17
  have hc := HCT.out.2.2.2.1 _ _ _ HP6.out.2.1
  go_wp2_with fail
  refine Calls.mono hc ?_
  rintro e w19 ⟨rfl, hb1⟩
  obtain ⟨Y19, hY19, y19, bY19⟩ := newRow w19 zb cr 40
  have hb := hb1.trans (bY19.mono hb1.size)
  obtain ⟨at0_o, iv0_o, y5_o, hB_o, at7_o, iv8_o, y9_o, y11_o, at13_o, at15_o, y17_o⟩ := HP6.out
  have at0 := at0_o.nxt hb
  have iv0 := iv0_o.nxt hb
  have y5 := bBlk hb (Array.getElem?_eq_some_iff.1 y5_o).1 y5_o
  have hB := bNext hB_o hb
  have at7 := at7_o.nxt hb
  have iv8 := iv8_o.nxt hb
  have y9 := bBlk hb (Array.getElem?_eq_some_iff.1 y9_o).1 y9_o
  have y11 := bBlk hb (Array.getElem?_eq_some_iff.1 y11_o).1 y11_o
  have at13 := at13_o.nxt hb
  have at15 := at15_o.nxt hb
  have y17 := bBlk hb (Array.getElem?_eq_some_iff.1 y17_o).1 y17_o
  clear at0_o iv0_o y5_o hB_o at7_o iv8_o y9_o y11_o at13_o at15_o y17_o HP6
  clear hb hb1 bY19 hc
  have HP7 := Lib.hid (And.intro at0 (And.intro iv0 (And.intro y5 (And.intro hB (And.intro at7 (And.intro iv8 (And.intro y9 (And.intro y11 (And.intro at13 (And.intro at15 (And.intro y17 y19)))))))))))
  clear at0 iv0 y5 hB at7 iv8 y9 y11 at13 at15 y17 y19
  go_upto_region 10 with (first
    | (refine wpList_new rfl hbz rfl ?_)
    | (refine wpList_store_row rfl 40 (.tmp 19) (.tmp 68) rfl _ cr rfl rfl _ zb (heap_alloc_new _ _) hri hrs hr1 ?_)
    | fail)
  try rw [hY19]
  clear hY19
  have hc := HCT.out.2.2.2.2.2.2.2.2.1 Y19
  have yb := HP7.out.2.2.1
  refine wp_region_lit ?_
  refine wpList_load_row rfl 40 (.tmp 5) rfl _ rfl _ cb (0, 0) _ yb Try.underlying40 rfl hbi ?_
  (try simp only [Act.put, List.setIfInBounds_toArray, List.set_cons_zero, List.set_cons_succ])
  clear yb
  go_wp2_with fail
  refine Calls.mono hc ?_
  rintro e w21 ⟨A21, n21, c21, rfl, iv21, hb⟩
  clear hc
  obtain ⟨at0_o, iv0_o, y5_o, hB_o, at7_o, iv8_o, y9_o, y11_o, at13_o, at15_o, y17_o, y19_o⟩ := HP7.out
  have at0 := at0_o.nxt hb
  have iv0 := iv0_o.nxt hb
  have y5 := bBlk hb (Array.getElem?_eq_some_iff.1 y5_o).1 y5_o
  have hB := bNext hB_o hb
  have at7 := at7_o.nxt hb
  have iv8 := iv8_o.nxt hb
  have y9 := bBlk hb (Array.getElem?_eq_some_iff.1 y9_o).1 y9_o
  have y11 := bBlk hb (Array.getElem?_eq_some_iff.1 y11_o).1 y11_o
  have at13 := at13_o.nxt hb
  have at15 := at15_o.nxt hb
  have y17 := bBlk hb (Array.getElem?_eq_some_iff.1 y17_o).1 y17_o
  have y19 := bBlk hb (Array.getElem?_eq_some_iff.1 y19_o).1 y19_o
  clear at0_o iv0_o y5_o hB_o at7_o iv8_o y9_o y11_o at13_o at15_o y17_o y19_o HP7
  clear hb
  have HP8 := Lib.hid (And.intro at0 (And.intro iv0 (And.intro y5 (And.intro hB (And.intro at7 (And.intro iv8 (And.intro y9 (And.intro y11 (And.intro at13 (And.intro at15 (And.intro y17 (And.intro y19 iv21))))))))))))
  clear at0 iv0 y5 hB at7 iv8 y9 y11 at13 at15 y17 y19 iv21
  go_upto_region 11 with (fail)
  have hc := HCT.out.2.2.2.2.2.2.2.2.2 w21
  have yb := HP8.out.2.2.1
  refine wp_region_lit ?_
  refine wpList_load_row rfl 40 (.tmp 5) rfl _ rfl _ cb (0, 0) _ yb Try.underlying40 rfl hbi ?_
  (try simp only [Act.put, List.setIfInBounds_toArray, List.set_cons_zero, List.set_cons_succ])
  clear yb
  go_wp2_with fail
  refine Calls.mono hc ?_
  rintro e w23 ⟨A23, n23, c23, rfl, iv23, hb⟩
  clear hc
  obtain ⟨at0_o, iv0_o, y5_o, hB_o, at7_o, iv8_o, y9_o, y11_o, at13_o, at15_o, y17_o, y19_o, iv21_o⟩ := HP8.out
  have at0 := at0_o.nxt hb
  have iv0 := iv0_o.nxt hb
  have y5 := bBlk hb (Array.getElem?_eq_some_iff.1 y5_o).1 y5_o
  have hB := bNext hB_o hb
  have at7 := at7_o.nxt hb
  have iv8 := iv8_o.nxt hb
  have y9 := bBlk hb (Array.getElem?_eq_some_iff.1 y9_o).1 y9_o
  have y11 := bBlk hb (Array.getElem?_eq_some_iff.1 y11_o).1 y11_o
  have at13 := at13_o.nxt hb
  have at15 := at15_o.nxt hb
  have y17 := bBlk hb (Array.getElem?_eq_some_iff.1 y17_o).1 y17_o
  have y19 := bBlk hb (Array.getElem?_eq_some_iff.1 y19_o).1 y19_o
  have iv21 := iv21_o.nxt hb
  clear at0_o iv0_o y5_o hB_o at7_o iv8_o y9_o y11_o at13_o at15_o y17_o y19_o iv21_o HP8
  clear hb
  have HP9 := Lib.hid (And.intro at0 (And.intro iv0 (And.intro y5 (And.intro hB (And.intro at7 (And.intro iv8 (And.intro y9 (And.intro y11 (And.intro at13 (And.intro at15 (And.intro y17 (And.intro y19 (And.intro iv21 iv23)))))))))))))
  clear at0 iv0 y5 hB at7 iv8 y9 y11 at13 at15 y17 y19 iv21 iv23
  go_upto_region 12 with (fail)
  have hc := HCT.out.2.2.2.2.1 _ _ _ HP9.out.2.2.2.2.1
  go_wp2_with fail
  refine Calls.mono hc ?_
  rintro e x1 ⟨rfl, hb⟩
  clear hc
  obtain ⟨at0_o, iv0_o, y5_o, hB_o, at7_o, iv8_o, y9_o, y11_o, at13_o, at15_o, y17_o, y19_o, iv21_o, iv23_o⟩ := HP9.out
  have at0 := at0_o.nxt hb
  have iv0 := iv0_o.nxt hb
  have y5 := bBlk hb (Array.getElem?_eq_some_iff.1 y5_o).1 y5_o
  have hB := bNext hB_o hb
  have at7 := at7_o.nxt hb
  have iv8 := iv8_o.nxt hb
  have y9 := bBlk hb (Array.getElem?_eq_some_iff.1 y9_o).1 y9_o
  have y11 := bBlk hb (Array.getElem?_eq_some_iff.1 y11_o).1 y11_o
  have at13 := at13_o.nxt hb
  have at15 := at15_o.nxt hb
  have y17 := bBlk hb (Array.getElem?_eq_some_iff.1 y17_o).1 y17_o
  have y19 := bBlk hb (Array.getElem?_eq_some_iff.1 y19_o).1 y19_o
  have iv21 := iv21_o.nxt hb
  have iv23 := iv23_o.nxt hb
  clear at0_o iv0_o y5_o hB_o at7_o iv8_o y9_o y11_o at13_o at15_o y17_o y19_o iv21_o iv23_o HP9
  clear hb
  have HP10 := Lib.hid (And.intro at0 (And.intro iv0 (And.intro y5 (And.intro hB (And.intro at7 (And.intro iv8 (And.intro y9 (And.intro y11 (And.intro at13 (And.intro at15 (And.intro y17 (And.intro y19 (And.intro iv21 iv23)))))))))))))
  clear at0 iv0 y5 hB at7 iv8 y9 y11 at13 at15 y17 y19 iv21 iv23
  have hc := HCT.out.2.2.2.2.2.1 _ _ _ HP10.out.1
  go_wp2_with fail
  refine Calls.mono hc ?_
  rintro e x2 ⟨rfl, hb⟩
  clear hc
  obtain ⟨at0_o, iv0_o, y5_o, hB_o, at7_o, iv8_o, y9_o, y11_o, at13_o, at15_o, y17_o, y19_o, iv21_o, iv23_o⟩ := HP10.out
  have at0 := at0_o.nxt hb
  have iv0 := iv0_o.nxt hb
  have y5 := bBlk hb (Array.getElem?_eq_some_iff.1 y5_o).1 y5_o
  have hB := bNext hB_o hb
  have at7 := at7_o.nxt hb
  have iv8 := iv8_o.nxt hb
  have y9 := bBlk hb (Array.getElem?_eq_some_iff.1 y9_o).1 y9_o
  have y11 := bBlk hb (Array.getElem?_eq_some_iff.1 y11_o).1 y11_o
  have at13 := at13_o.nxt hb
  have at15 := at15_o.nxt hb
  have y17 := bBlk hb (Array.getElem?_eq_some_iff.1 y17_o).1 y17_o
  have y19 := bBlk hb (Array.getElem?_eq_some_iff.1 y19_o).1 y19_o
  have iv21 := iv21_o.nxt hb
  have iv23 := iv23_o.nxt hb
  clear at0_o iv0_o y5_o hB_o at7_o iv8_o y9_o y11_o at13_o at15_o y17_o y19_o iv21_o iv23_o HP10
  clear hb
  have HP11 := Lib.hid (And.intro at0 (And.intro iv0 (And.intro y5 (And.intro hB (And.intro at7 (And.intro iv8 (And.intro y9 (And.intro y11 (And.intro at13 (And.intro at15 (And.intro y17 (And.intro y19 (And.intro iv21 iv23)))))))))))))
  clear at0 iv0 y5 hB at7 iv8 y9 y11 at13 at15 y17 y19 iv21 iv23
  have m13 : n13 ≤ 3 := by have := HP11.out.2.2.2.2.2.2.2.2.1.len; omega
  have m21 : n21 ≤ 100 := by have := HP11.out.2.2.2.2.2.2.2.2.2.2.2.2.1.len; omega
  have z9 := HP11.out.2.2.2.2.2.2.1
  have z11 := HP11.out.2.2.2.2.2.2.2.1
  have hc := keepe_any x2 HP11.out.2.2.2.2.2.2.2.2.1 HP11.out.2.2.2.2.2.2.2.2.2.1 (Nat.le_refl _) (Nat.le_refl _) (by omega)
  rw [decide_eq_true rfl] at hc
  go_wp2_with (first
    | (refine wpList_load_row_g (by simp [Region.wanted, yielded, Act.put]) 40 (.tmp 9) rfl _ rfl _ cp (0, 0) _ z9 Try.underlying40 rfl hpi ?_)
    | (refine wpList_load_row_g (by simp [Region.wanted, yielded, Act.put]) 40 (.tmp 11) rfl _ rfl _ cp (0, 0) _ z11 Try.underlying40 rfl hpi ?_)
    | fail)
  refine Calls.mono hc ?_
  rintro e x3 ⟨rfl, hb⟩
  clear hc
  clear z9
  clear z11
  obtain ⟨at0_o, iv0_o, y5_o, hB_o, at7_o, iv8_o, y9_o, y11_o, at13_o, at15_o, y17_o, y19_o, iv21_o, iv23_o⟩ := HP11.out
  have at0 := at0_o.nxt hb
  have iv0 := iv0_o.nxt hb
  have y5 := bBlk hb (Array.getElem?_eq_some_iff.1 y5_o).1 y5_o
  have hB := bNext hB_o hb
  have at7 := at7_o.nxt hb
  have iv8 := iv8_o.nxt hb
  have y9 := bBlk hb (Array.getElem?_eq_some_iff.1 y9_o).1 y9_o
  have y11 := bBlk hb (Array.getElem?_eq_some_iff.1 y11_o).1 y11_o
  have at13 := at13_o.nxt hb
  have at15 := at15_o.nxt hb
  have y17 := bBlk hb (Array.getElem?_eq_some_iff.1 y17_o).1 y17_o
  have y19 := bBlk hb (Array.getElem?_eq_some_iff.1 y19_o).1 y19_o
  have iv21 := iv21_o.nxt hb
  have iv23 := iv23_o.nxt hb
  clear at0_o iv0_o y5_o hB_o at7_o iv8_o y9_o y11_o at13_o at15_o y17_o y19_o iv21_o iv23_o HP11
  clear hb
  have HP12 := Lib.hid (And.intro at0 (And.intro iv0 (And.intro y5 (And.intro hB (And.intro at7 (And.intro iv8 (And.intro y9 (And.intro y11 (And.intro at13 (And.intro at15 (And.intro y17 (And.intro y19 (And.intro iv21 iv23)))))))))))))
  clear at0 iv0 y5 hB at7 iv8 y9 y11 at13 at15 y17 y19 iv21 iv23
  have z17 := HP12.out.2.2.2.2.2.2.2.2.2.2.1
  have z19 := HP12.out.2.2.2.2.2.2.2.2.2.2.2.1
  have hc := keepi_any x3 HP12.out.2.2.2.2.2.2.2.2.2.2.2.2.1 HP12.out.2.2.2.2.2.2.2.2.2.2.2.2.2 (Nat.le_refl _) (Nat.le_refl _) (by omega)
  rw [decide_eq_true rfl] at hc
  go_wp2_with (first
    | (refine wpList_load_row_g (by simp [Region.wanted, yielded, Act.put]) 40 (.tmp 17) rfl _ rfl _ cr (0, 0) _ z17 Try.underlying40 rfl hri ?_)
    | (refine wpList_load_row_g (by simp [Region.wanted, yielded, Act.put]) 40 (.tmp 19) rfl _ rfl _ cr (0, 0) _ z19 Try.underlying40 rfl hri ?_)
    | fail)
  refine Calls.mono hc ?_
  rintro e x4 ⟨rfl, hb⟩
  clear hc
  clear z17
  clear z19
  obtain ⟨at0_o, iv0_o, y5_o, hB_o, at7_o, iv8_o, y9_o, y11_o, at13_o, at15_o, y17_o, y19_o, iv21_o, iv23_o⟩ := HP12.out
  have at0 := at0_o.nxt hb
  have iv0 := iv0_o.nxt hb
  have y5 := bBlk hb (Array.getElem?_eq_some_iff.1 y5_o).1 y5_o
  have hB := bNext hB_o hb
  have at7 := at7_o.nxt hb
  have iv8 := iv8_o.nxt hb
  have y9 := bBlk hb (Array.getElem?_eq_some_iff.1 y9_o).1 y9_o
  have y11 := bBlk hb (Array.getElem?_eq_some_iff.1 y11_o).1 y11_o
  have at13 := at13_o.nxt hb
  have at15 := at15_o.nxt hb
  have y17 := bBlk hb (Array.getElem?_eq_some_iff.1 y17_o).1 y17_o
  have y19 := bBlk hb (Array.getElem?_eq_some_iff.1 y19_o).1 y19_o
  have iv21 := iv21_o.nxt hb
  have iv23 := iv23_o.nxt hb
  clear at0_o iv0_o y5_o hB_o at7_o iv8_o y9_o y11_o at13_o at15_o y17_o y19_o iv21_o iv23_o HP12
  clear hb
  have HP13 := Lib.hid (And.intro at0 (And.intro iv0 (And.intro y5 (And.intro hB (And.intro at7 (And.intro iv8 (And.intro y9 (And.intro y11 (And.intro at13 (And.intro at15 (And.intro y17 (And.intro y19 (And.intro iv21 iv23)))))))))))))
  clear at0 iv0 y5 hB at7 iv8 y9 y11 at13 at15 y17 y19 iv21 iv23
  have hc := keepe_any x4 HP13.out.2.2.2.2.1 HP13.out.1 (Nat.le_refl _) (Nat.le_refl _) (by omega)
  rw [decide_eq_true rfl] at hc
  go_wp2_with fail
  refine Calls.mono hc ?_
  rintro e x5 ⟨rfl, hb⟩
  clear hc
  obtain ⟨at0_o, iv0_o, y5_o, hB_o, at7_o, iv8_o, y9_o, y11_o, at13_o, at15_o, y17_o, y19_o, iv21_o, iv23_o⟩ := HP13.out
  have at0 := at0_o.nxt hb
  have iv0 := iv0_o.nxt hb
  have y5 := bBlk hb (Array.getElem?_eq_some_iff.1 y5_o).1 y5_o
  have hB := bNext hB_o hb
  have at7 := at7_o.nxt hb
  have iv8 := iv8_o.nxt hb
  have y9 := bBlk hb (Array.getElem?_eq_some_iff.1 y9_o).1 y9_o
  have y11 := bBlk hb (Array.getElem?_eq_some_iff.1 y11_o).1 y11_o
  have at13 := at13_o.nxt hb
  have at15 := at15_o.nxt hb
  have y17 := bBlk hb (Array.getElem?_eq_some_iff.1 y17_o).1 y17_o
  have y19 := bBlk hb (Array.getElem?_eq_some_iff.1 y19_o).1 y19_o
  have iv21 := iv21_o.nxt hb
  have iv23 := iv23_o.nxt hb
  clear at0_o iv0_o y5_o hB_o at7_o iv8_o y9_o y11_o at13_o at15_o y17_o y19_o iv21_o iv23_o HP13
  clear hb
  have HP14 := Lib.hid (And.intro at0 (And.intro iv0 (And.intro y5 (And.intro hB (And.intro at7 (And.intro iv8 (And.intro y9 (And.intro y11 (And.intro at13 (And.intro at15 (And.intro y17 (And.intro y19 (And.intro iv21 iv23)))))))))))))
  clear at0 iv0 y5 hB at7 iv8 y9 y11 at13 at15 y17 y19 iv21 iv23
  have hc := keepi_any x5 HP14.out.2.2.2.2.2.1 HP14.out.2.1 (Nat.le_refl _) (Nat.le_refl _) (by omega)
  rw [decide_eq_true rfl] at hc
  go_wp2_with fail
  refine Calls.mono hc ?_
  rintro e x6 ⟨rfl, hb⟩
  clear hc
  obtain ⟨at0_o, iv0_o, y5_o, hB_o, at7_o, iv8_o, y9_o, y11_o, at13_o, at15_o, y17_o, y19_o, iv21_o, iv23_o⟩ := HP14.out
  have at0 := at0_o.nxt hb
  have iv0 := iv0_o.nxt hb
  have y5 := bBlk hb (Array.getElem?_eq_some_iff.1 y5_o).1 y5_o
  have hB := bNext hB_o hb
  have at7 := at7_o.nxt hb
  have iv8 := iv8_o.nxt hb
  have y9 := bBlk hb (Array.getElem?_eq_some_iff.1 y9_o).1 y9_o
  have y11 := bBlk hb (Array.getElem?_eq_some_iff.1 y11_o).1 y11_o
  have at13 := at13_o.nxt hb
  have at15 := at15_o.nxt hb
  have y17 := bBlk hb (Array.getElem?_eq_some_iff.1 y17_o).1 y17_o
  have y19 := bBlk hb (Array.getElem?_eq_some_iff.1 y19_o).1 y19_o
  have iv21 := iv21_o.nxt hb
  have iv23 := iv23_o.nxt hb
  clear at0_o iv0_o y5_o hB_o at7_o iv8_o y9_o y11_o at13_o at15_o y17_o y19_o iv21_o iv23_o HP14
  clear hb
  have HP15 := Lib.hid (And.intro at0 (And.intro iv0 (And.intro y5 (And.intro hB (And.intro at7 (And.intro iv8 (And.intro y9 (And.intro y11 (And.intro at13 (And.intro at15 (And.intro y17 (And.intro y19 (And.intro iv21 iv23)))))))))))))
  clear at0 iv0 y5 hB at7 iv8 y9 y11 at13 at15 y17 y19 iv21 iv23
  have hc := wakes05_any x6
  go_wp2_with fail
  refine Calls.mono hc ?_
  rintro e x7 ⟨rfl, hb⟩
  clear hc
  obtain ⟨at0_o, iv0_o, y5_o, hB_o, at7_o, iv8_o, y9_o, y11_o, at13_o, at15_o, y17_o, y19_o, iv21_o, iv23_o⟩ := HP15.out
  have at0 := at0_o.nxt hb
  have iv0 := iv0_o.nxt hb
  have y5 := bBlk hb (Array.getElem?_eq_some_iff.1 y5_o).1 y5_o
  have hB := bNext hB_o hb
  have at7 := at7_o.nxt hb
  have iv8 := iv8_o.nxt hb
  have y9 := bBlk hb (Array.getElem?_eq_some_iff.1 y9_o).1 y9_o
  have y11 := bBlk hb (Array.getElem?_eq_some_iff.1 y11_o).1 y11_o
  have at13 := at13_o.nxt hb
  have at15 := at15_o.nxt hb
  have y17 := bBlk hb (Array.getElem?_eq_some_iff.1 y17_o).1 y17_o
  have y19 := bBlk hb (Array.getElem?_eq_some_iff.1 y19_o).1 y19_o
  have iv21 := iv21_o.nxt hb
  have iv23 := iv23_o.nxt hb
  clear at0_o iv0_o y5_o hB_o at7_o iv8_o y9_o y11_o at13_o at15_o y17_o y19_o iv21_o iv23_o HP15
  clear hb
  have HP16 := Lib.hid (And.intro at0 (And.intro iv0 (And.intro y5 (And.intro hB (And.intro at7 (And.intro iv8 (And.intro y9 (And.intro y11 (And.intro at13 (And.intro at15 (And.intro y17 (And.intro y19 (And.intro iv21 iv23)))))))))))))
  clear at0 iv0 y5 hB at7 iv8 y9 y11 at13 at15 y17 y19 iv21 iv23
  go_wp2_with fail
  go_ret
  exact Ret.mk rfl HP16.out.2.2.2.1
set_option maxRecDepth 100000 in
theorem leafCodes_walk {H : Type} {enc : TypeId × Value → H} {W : World} {base : Nat} {v0 v1 v2 : Value} {d0 d1 d2 : DataW H} {p0 p1 p2 : List MemPlace}
    (k0 : Value.okWide Try.prog W .any base 49 v0) (h0 : DataW.Trod enc Try.prog W 0 (fun _ => true) true 49 v0 d0 p0)
    (k1 : Value.okWide Try.prog W .any base 50 v1) (h1 : DataW.Trod enc Try.prog W 0 (fun _ => true) true 50 v1 d1 p1)
    (k2 : Value.okWide Try.prog W .any base 40 v2) (h2 : DataW.Trod enc Try.prog W 0 (fun _ => true) true 40 v2 d2 p2)
    : Calls Try.prog 8 #[v0, v1, v2] W fun e W' => e = .returned (.bool true) ∧ Below W.heap.size W W' := by
  obtain ⟨A, n, c, l, rfl, hl, -⟩ := open_entries k0 h0
  obtain ⟨A', m, c', ps, rfl, hp, -⟩ := open_places k1 h1
  obtain ⟨b, rfl, hb⟩ := open_blk k2 h2
  by_cases h : 20 < n
  · exact big_codes W (.inl h)
  · by_cases h' : 300 < m
    · exact big_codes W (.inr ⟨h, h'⟩)
    · exact codes_core W hl hp hb (by omega) (by omega)
end Go.Proofs.Ythmjkgpfnpdddaa
