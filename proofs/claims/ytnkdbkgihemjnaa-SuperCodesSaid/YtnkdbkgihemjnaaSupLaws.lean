/- The walks over SuperCodes and SuperNone. (s4/codes.py writes it.) -/
import Derived.Test.YtnkdbkgihemjnaaSupArg
namespace Go.Proofs.Ytnkdbkgihemjnaa
set_option linter.unusedSimpArgs false
set_option linter.unusedVariables false
open Go.RowKit Go.ChangeShapes Go.WideShapes Go.Sort

theorem rowR {w : World} {g : Nat} {cs : List Value} {t : TypeId} (h : w.heap[g]? = some (.cells cs.toArray t)) : w.rangeAt g 0 cs := fun j v hj => by rw [Nat.zero_add]; exact blk_cell h (by simpa using hj)

set_option maxHeartbeats 16000000 in
set_option maxRecDepth 100000 in
theorem superCodes_core {s : SP} (hs : s.Ok) {b : Blk} (hb : b.length = 128) (w : World) : Calls Try.prog 10 #[spv s, bkv b] w (Ret w (.bool true)) := by
  have henc := fun W => encode_any hs W
  have hrenc := fun W => rencode_any hs W
  have hdec := fun W => decode_any hb W
  have hrdec := fun W => rdecode_any hb W
  have hgd := fun W => good_any hs W
  have hrgd := fun W => rgood_any hs W
  unfold spv bkv at henc hrenc hdec hrdec
  unfold spv at hgd hrgd
  unfold spv bkv
  have hEl := hs.enc
  have oD := decS_ok hb
  obtain ⟨E, hE⟩ : ∃ E, s.enc = E := ⟨_, rfl⟩
  obtain ⟨D, hD⟩ : ∃ D, decS b = D := ⟨_, rfl⟩
  obtain ⟨z1, hz1⟩ : ∃ z, s.encE = z := ⟨_, rfl⟩
  obtain ⟨z2, hz2⟩ : ∃ z, decE b = z := ⟨_, rfl⟩
  rw [hE, hz1] at henc hrenc
  rw [hD, hz2] at hdec hrdec
  rw [hE] at hEl
  rw [hD] at oD
  clear hE hD hz1 hz2
  have i2 := sp_info hs
  have iD := sp_info oD
  have l2 := sp_len hs
  have lD := sp_len oD
  have szD := sp_sizes sp0_ok oD
  have hsE := fun w => bk_same hEl w
  have hsD := fun w => sp_same oD w
  obtain ⟨cs, hcs⟩ : ∃ cs, s.cells = cs := ⟨_, rfl⟩
  rw [hcs] at i2 l2 henc hrenc hgd hrgd
  rw [hcs]
  obtain ⟨t, ht⟩ : ∃ t, s.good = t := ⟨_, rfl⟩
  rw [ht] at hgd hrgd
  clear hcs ht
  go_enter Try.func10, Try.ntmps10
  go_upto_region 1 with (fail)
  obtain ⟨W, hW⟩ : ∃ W, (w.alloc (.cells cs.toArray 38)).alloc (.cells (bvs b).toArray 40) = W := ⟨_, rfl⟩
  try rw [hW]
  have a2 : W.heap[w.heap.size]? = some (.cells cs.toArray 38) := by rw [← hW]; exact (Below.heap_alloc _ _ _ (by simp)).trans (heap_alloc_new _ _)
  have a3 : W.heap[w.heap.size + 1]? = some (.cells (bvs b).toArray 40) := by rw [← hW]; exact heap_alloc_two _ _ _
  have hB : Below w.heap.size w W := by rw [← hW]; exact ((Below.refl _ _).alloc (Nat.le_refl _) _).alloc (by simp) _
  clear hW
  refine wp_region_lit ?_
  refine wpList_load_row rfl 38 (.tmp 2) rfl _ rfl _ cs.toArray (0, 0) _ a2 Try.underlying38 rfl i2 ?_
  (try simp only [Act.put, List.setIfInBounds_toArray, List.set_cons_zero, List.set_cons_succ])
  go_wp2_with fail
  refine Calls.mono (henc _) ?_
  rintro e W5 ⟨rfl, hb1⟩
  replace a2 := bBlk hb1 (Array.getElem?_eq_some_iff.1 a2).1 a2
  replace a3 := bBlk hb1 (Array.getElem?_eq_some_iff.1 a3).1 a3
  replace hB := hB.trans (hb1.mono hB.size)
  clear hb1
  obtain ⟨Y5, hY, a5, bY⟩ := newRow W5 (bvs zblk).toArray (bvs E).toArray 40
  replace a2 := bBlk bY (Array.getElem?_eq_some_iff.1 a2).1 a2
  replace a3 := bBlk bY (Array.getElem?_eq_some_iff.1 a3).1 a3
  replace hB := hB.trans (bY.mono hB.size)
  clear bY
  go_upto_region 2 with (first
    | (refine wpList_new rfl blkZ rfl ?_)
    | (refine wpList_store_row rfl 40 (.tmp 5) (.tmp 16) rfl _ (bvs E).toArray rfl rfl _ (bvs zblk).toArray (heap_alloc_new _ _) (bk_info hEl) (blk_sizes zblk_len hEl) (all_oneCell_toArray (oneCell_bvs _)) ?_)
    | fail)
  try rw [hY]
  clear hY
  refine wp_region_lit ?_
  refine wpList_load_row rfl 38 (.tmp 2) rfl _ rfl _ cs.toArray (0, 0) _ a2 Try.underlying38 rfl i2 ?_
  (try simp only [Act.put, List.setIfInBounds_toArray, List.set_cons_zero, List.set_cons_succ])
  go_wp2_with fail
  refine Calls.mono (hrenc _) ?_
  rintro e W7 ⟨rfl, hb1⟩
  replace a2 := bBlk hb1 (Array.getElem?_eq_some_iff.1 a2).1 a2
  replace a3 := bBlk hb1 (Array.getElem?_eq_some_iff.1 a3).1 a3
  replace a5 := bBlk hb1 (Array.getElem?_eq_some_iff.1 a5).1 a5
  replace hB := hB.trans (hb1.mono hB.size)
  clear hb1
  obtain ⟨Y7, hY, a7, bY⟩ := newRow W7 (bvs zblk).toArray (bvs E).toArray 40
  replace a2 := bBlk bY (Array.getElem?_eq_some_iff.1 a2).1 a2
  replace a3 := bBlk bY (Array.getElem?_eq_some_iff.1 a3).1 a3
  replace a5 := bBlk bY (Array.getElem?_eq_some_iff.1 a5).1 a5
  replace hB := hB.trans (bY.mono hB.size)
  clear bY
  go_upto_region 3 with (first
    | (refine wpList_new rfl blkZ rfl ?_)
    | (refine wpList_store_row rfl 40 (.tmp 7) (.tmp 21) rfl _ (bvs E).toArray rfl rfl _ (bvs zblk).toArray (heap_alloc_new _ _) (bk_info hEl) (blk_sizes zblk_len hEl) (all_oneCell_toArray (oneCell_bvs _)) ?_)
    | fail)
  try rw [hY]
  clear hY
  refine wp_region_lit ?_
  refine wpList_load_row rfl 40 (.tmp 3) rfl _ rfl _ (bvs b).toArray (0, 0) _ a3 Try.underlying40 rfl (bk_info hb) ?_
  (try simp only [Act.put, List.setIfInBounds_toArray, List.set_cons_zero, List.set_cons_succ])
  go_wp2_with fail
  refine Calls.mono (hdec _) ?_
  rintro e W9 ⟨rfl, hb1⟩
  replace a2 := bBlk hb1 (Array.getElem?_eq_some_iff.1 a2).1 a2
  replace a3 := bBlk hb1 (Array.getElem?_eq_some_iff.1 a3).1 a3
  replace a5 := bBlk hb1 (Array.getElem?_eq_some_iff.1 a5).1 a5
  replace a7 := bBlk hb1 (Array.getElem?_eq_some_iff.1 a7).1 a7
  replace hB := hB.trans (hb1.mono hB.size)
  clear hb1
  obtain ⟨Y9, hY, a9, bY⟩ := newRow W9 sp0.cells.toArray D.cells.toArray 38
  replace a2 := bBlk bY (Array.getElem?_eq_some_iff.1 a2).1 a2
  replace a3 := bBlk bY (Array.getElem?_eq_some_iff.1 a3).1 a3
  replace a5 := bBlk bY (Array.getElem?_eq_some_iff.1 a5).1 a5
  replace a7 := bBlk bY (Array.getElem?_eq_some_iff.1 a7).1 a7
  replace hB := hB.trans (bY.mono hB.size)
  clear bY
  go_upto_region 4 with (first
    | (refine wpList_new rfl spZ rfl ?_)
    | (refine wpList_store_row rfl 38 (.tmp 9) (.tmp 26) rfl _ D.cells.toArray rfl rfl _ sp0.cells.toArray (heap_alloc_new _ _) iD szD (all_oneCell_toArray (one_sp _)) ?_)
    | fail)
  try rw [hY]
  clear hY
  refine wp_region_lit ?_
  refine wpList_load_row rfl 40 (.tmp 3) rfl _ rfl _ (bvs b).toArray (0, 0) _ a3 Try.underlying40 rfl (bk_info hb) ?_
  (try simp only [Act.put, List.setIfInBounds_toArray, List.set_cons_zero, List.set_cons_succ])
  go_wp2_with fail
  refine Calls.mono (hrdec _) ?_
  rintro e W11 ⟨rfl, hb1⟩
  replace a2 := bBlk hb1 (Array.getElem?_eq_some_iff.1 a2).1 a2
  replace a3 := bBlk hb1 (Array.getElem?_eq_some_iff.1 a3).1 a3
  replace a5 := bBlk hb1 (Array.getElem?_eq_some_iff.1 a5).1 a5
  replace a7 := bBlk hb1 (Array.getElem?_eq_some_iff.1 a7).1 a7
  replace a9 := bBlk hb1 (Array.getElem?_eq_some_iff.1 a9).1 a9
  replace hB := hB.trans (hb1.mono hB.size)
  clear hb1
  obtain ⟨Y11, hY, a11, bY⟩ := newRow W11 sp0.cells.toArray D.cells.toArray 38
  replace a2 := bBlk bY (Array.getElem?_eq_some_iff.1 a2).1 a2
  replace a3 := bBlk bY (Array.getElem?_eq_some_iff.1 a3).1 a3
  replace a5 := bBlk bY (Array.getElem?_eq_some_iff.1 a5).1 a5
  replace a7 := bBlk bY (Array.getElem?_eq_some_iff.1 a7).1 a7
  replace a9 := bBlk bY (Array.getElem?_eq_some_iff.1 a9).1 a9
  replace hB := hB.trans (bY.mono hB.size)
  clear bY
  go_upto_region 5 with (first
    | (refine wpList_new rfl spZ rfl ?_)
    | (refine wpList_store_row rfl 38 (.tmp 11) (.tmp 31) rfl _ D.cells.toArray rfl rfl _ sp0.cells.toArray (heap_alloc_new _ _) iD szD (all_oneCell_toArray (one_sp _)) ?_)
    | fail)
  try rw [hY]
  clear hY
  have q2 := range_reg (rowR a2)
  have q5 := range_reg (rowR a5)
  have q7 := range_reg (rowR a7)
  have q9 := range_reg (rowR a9)
  have q11 := range_reg (rowR a11)
  have hwk := fun W => wakes07_any W
  clear henc hrenc hdec hrdec a2 a3 a5 a7 a9 a11
  refine wp_region_quiet_below (by kernel_rfl) (by kernel_rfl) ?_
  refine wpQuiet_load_row (by simp [Region.wanted, yielded, Act.put]) 38 _ rfl _ _ rfl cs q2 _ Try.underlying38 rfl l2 ?_
  quiet_step ((go_at_call 49; exact Calls.regrown_of (hgd _)))
  refine wpQuiet_load_row (by simp [Region.wanted, yielded, Act.put]) 38 _ rfl _ _ rfl cs q2 _ Try.underlying38 rfl l2 ?_
  quiet_step ((go_at_call 50; exact Calls.regrown_of (hrgd _)))
  iterate 2 (quiet_step (fail))
  refine wpQuiet_load_row (by simp [Region.wanted, yielded, Act.put]) 40 _ rfl _ _ rfl (bvs E) q5 _ Try.underlying40 rfl (bk_len hEl) ?_
  refine wpQuiet_load_row (by simp [Region.wanted, yielded, Act.put]) 40 _ rfl _ _ rfl (bvs E) q7 _ Try.underlying40 rfl (bk_len hEl) ?_
  iterate 8 (quiet_step (fail))
  refine wpQuiet_load_row (by simp [Region.wanted, yielded, Act.put]) 38 _ rfl _ _ rfl D.cells q9 _ Try.underlying38 rfl lD ?_
  refine wpQuiet_load_row (by simp [Region.wanted, yielded, Act.put]) 38 _ rfl _ _ rfl D.cells q11 _ Try.underlying38 rfl lD ?_
  iterate 8 (quiet_step (fail))
  quiet_step ((go_at_call 16; exact Calls.regrown_of (hwk _)))
  iterate 2 (quiet_step (fail))
  refine wpQuiet_nil ?_
  intro _ hw'
  obtain ⟨pq, rfl⟩ := hw'
  go_wp2
  go_ret
  exact Ret.mk (by first | rfl | simp) (hB.trans ((below_regrown Y11 pq.d pq.os).mono hB.size))

set_option maxRecDepth 100000 in
theorem superCodes_walk {H : Type} {enc : TypeId × Value → H} {W : World} {base : Nat} {v0 v1 : Value} {d0 d1 : DataW H} {p0 p1 : List MemPlace}
    (k0 : Value.okWide Try.prog W .any base 38 v0) (h0 : DataW.Trod enc Try.prog W 0 (fun _ => true) true 38 v0 d0 p0)
    (k1 : Value.okWide Try.prog W .any base 40 v1) (h1 : DataW.Trod enc Try.prog W 0 (fun _ => true) true 40 v1 d1 p1)
    : Calls Try.prog 10 #[v0, v1] W fun e W' => e = .returned (.bool true) ∧ Below W.heap.size W W' := by
  obtain ⟨s, rfl, hs⟩ := open_sp k0 h0
  obtain ⟨b, hb, rfl⟩ := open_bytes_arr Try.underlying40 Try.underlying5 (by kernel_rfl) (by kernel_rfl) k1 h1
  exact superCodes_core hs hb W
end Go.Proofs.Ytnkdbkgihemjnaa
