/- The wakes of layer 7. -/
import Derived.Test.YtnkdbkgihemjnaaSupRNew
import Derived.Test.YtnkdbkgihemjnaaSupBest
import Derived.Test.YtnkdbkgihemjnaaDskWakes
namespace Go.Proofs.Ytnkdbkgihemjnaa
set_option linter.unusedSimpArgs false
set_option linter.unusedVariables false
open Go.RowKit Go.ChangeShapes Go.WideShapes Go.Sort

/-! ### rows beside a disk -/
structure Rw (w : World) (p B : Nat) (v : Value) (g : Nat) (cs : Array Value) (t : TypeId) : Prop where
  at_ : w.heap[g]? = some (.cells cs t)
  no : ¬ Own p B v g
theorem Rw.lt {w : World} {p B g : Nat} {v : Value} {cs : Array Value} {t : TypeId} (h : Rw w p B v g cs t) : g < w.heap.size := (Array.getElem?_eq_some_iff.1 h.at_).1
theorem Rw.below {w w' : World} {p B g : Nat} {v : Value} {cs : Array Value} {t : TypeId} (h : Rw w p B v g cs t) (hb : Below w.heap.size w w') : Rw w' p B v g cs t := ⟨bBlk hb h.lt h.at_, h.no⟩
theorem Rw.step {w w' : World} {p B g : Nat} {v v' : Value} {cs : Array Value} {t : TypeId} (h : Rw w p B v g cs t) (hs : DStep p B v v' w w') : Rw w' p B v' g cs t := by
  refine ⟨hs.but.blk h.lt h.no h.at_, fun e => ?_⟩
  rcases e with e | e | e
  · exact h.no (.inl e)
  · exact h.no (.inr (.inl e))
  · rcases hs.own g e with e | e
    · exact h.no (.inr (.inr e))
    · have := h.lt; omega
theorem newRow (w : World) (z cs : Array Value) (t : TypeId) : ∃ Y, (w.alloc (.cells z t)).setRow w.heap.size cs = Y ∧ Y.heap[w.heap.size]? = some (.cells cs t) ∧ Below w.heap.size w Y :=
  ⟨_, rfl, setRow_heap _ _ _ _ _ _ (heap_alloc_new _ _), bSetRow ((Below.refl _ _).alloc (Nat.le_refl _) _) (Nat.le_refl _) _⟩
theorem Rw.new {w w' : World} {base p B g : Nat} {v : Value} {cs : Array Value} {t : TypeId} {d : DS} (hd : Dk w base p B v d) (hg : w.heap.size ≤ g) (h : w'.heap[g]? = some (.cells cs t)) : Rw w' p B v g cs t :=
  ⟨h, fun e => by have := hd.own_ge g e; omega⟩

theorem built_dig7 : Try.prog.built 34 [(0, .int .u8 7)] = some (bvs (7 :: List.replicate 31 0)).toArray := by kernel_rfl
theorem built_bm39 : Try.prog.built 36 [(0, .int .u8 39)] = some (bvs (39 :: List.replicate 15 0)).toArray := by kernel_rfl
theorem built_sA : Try.prog.built 38 [(0, .int .u32 258), (1, .int .i64 16), (2, .int .i64 5), (3, .agg (bvs (7 :: List.replicate 31 0)).toArray), (4, .agg (bvs (39 :: List.replicate 15 0)).toArray)] = some sA.cells.toArray := by kernel_rfl
theorem sB_set : sA.cells.toArray.setIfInBounds 0 (.int .u32 259) = sB.cells.toArray := rfl
theorem sAB : sA.cells.toArray.size = 51 ∧ sB.cells.toArray.size = 51 := ⟨by rw [List.size_toArray, sA_ok.len], by rw [List.size_toArray, sB_ok.len]⟩
theorem words07 : ∃ (SA SB : SP) (cd cb : Array Value), (SA = sA ∧ SB = sB) ∧ (SA.Ok ∧ SB.Ok) ∧ Try.prog.built 34 [(0, .int .u8 7)] = some cd ∧ Try.prog.built 36 [(0, .int .u8 39)] = some cb ∧
    Try.prog.built 38 [(0, .int .u32 258), (1, .int .i64 16), (2, .int .i64 5), (3, .agg cd), (4, .agg cb)] = some SA.cells.toArray ∧ SA.cells.toArray.setIfInBounds 0 (.int .u32 259) = SB.cells.toArray ∧ SA.cells.toArray[0]? = some (.int .u32 258) :=
  ⟨sA, sB, _, _, ⟨rfl, rfl⟩, ⟨sA_ok, sB_ok⟩, built_dig7, built_bm39, built_sA, sB_set, rfl⟩
theorem sp_sizes {a b : SP} (ha : a.Ok) (hb : b.Ok) : a.cells.toArray.size = b.cells.toArray.size := by rw [List.size_toArray, List.size_toArray, ha.len, hb.len]

theorem wA_bd : wA.done < 4611686018427380000 ∧ wA.lo.length < 900000 := by rw [wA_is.2]; decide
theorem wB_bd : wB.done < 4611686018427387904 ∧ wB.lo.length < 1000000 := by rw [wB_is.2]; decide
theorem wC_bd : (wB.write 1 zblk).lo.length < 1000000 := by rw [show wB.write 1 zblk = wC from rfl, wC_is.2]; decide
theorem bvs_get {l : List UInt8} {i : Nat} {x : UInt8} (h : l[i]? = some x) : (bvs l).toArray[i]? = some (bv x) := by simp [bvs, h]

set_option maxHeartbeats 16000000 in
set_option maxRecDepth 100000 in
theorem wakes07_any (w : World) : Calls Try.prog 16 #[] w (Ret w (.bool true)) := by
  obtain ⟨SA, SB, cd, cb, eAB, ⟨oA, oB⟩, bd, bb, bA, bS, gA⟩ := words07
  have HAB := Lib.hid eAB
  have HBS := Lib.hid bS
  clear eAB bS
  have iA := sp_info oA
  have iB := sp_info oB
  have sz0A := sp_sizes sp0_ok oA
  have hn0 : ((DS.new 16).newest).Ok := newest_ok (DS.new_ok (by omega) (by omega))
  obtain ⟨N0, hN0⟩ : ∃ s, (DS.new 16).newest = s := ⟨_, rfl⟩
  have HN0 := Lib.hid hN0
  rw [hN0] at hn0
  have i0 := sp_info hn0
  have sz00 := sp_sizes sp0_ok hn0
  clear hN0
  go_enter Try.func16, Try.ntmps16
  go_upto_region 1 with (fail)
  go_wp2_with fail
  refine (new_any 16 (by omega) (by omega) _).mono ?_
  rintro e w1 ⟨rfl, hk1, hb1⟩
  have hnw := newest_any hk1 (by decide)
  rw [HN0.out, new_newest] at hnw
  unfold dp spv at *
  go_upto_region 2 with (fail)
  go_wp2_with fail
  refine hnw.mono ?_
  rintro e w2 ⟨rfl, hb2⟩
  clear hnw
  obtain ⟨Y3, hY3, r3, bY3⟩ := newRow w2 sp0.cells.toArray N0.cells.toArray 38
  have hk3 := hk1.below (hb2.trans (bY3.mono hb2.size))
  have hB3 := hb1.trans ((hb2.trans (bY3.mono hb2.size)).mono hb1.size)
  clear r3 bY3 hb2 hb1 hk1
  go_upto_region 3 with (first
    | (refine wpList_new rfl spZ rfl ?_)
    | (refine wpList_store_row rfl 38 (.tmp 3) (.tmp 22) rfl _ N0.cells.toArray rfl rfl _ sp0.cells.toArray (heap_alloc_new _ _) i0 sz00 (all_oneCell_toArray (one_sp _)) ?_)
    | fail)
  try rw [hY3]
  clear hY3
  have hk := hk3
  have hB := hB3
  clear hk3 hB3
  obtain ⟨Y5, hY, r, bY⟩ := newRow Y3 sp0.cells.toArray SA.cells.toArray 38
  have q5 := Rw.new hk (Nat.le_refl _) r
  replace hk := hk.below bY
  replace hB := hB.trans (bY.mono hB.size)
  clear r bY
  refine wp_region_lit ?_
  refine wpList_built rfl 34 #[(0, .const (.int .u8 7))] rfl (cs := cd) (by simp only [List.map_toArray, List.map_cons, List.map_nil]; exact bd) ?_
  (try simp only [Act.put, List.setIfInBounds_toArray, List.set_cons_zero, List.set_cons_succ])
  refine wpList_built rfl 36 #[(0, .const (.int .u8 39))] rfl (cs := cb) (by simp only [List.map_toArray, List.map_cons, List.map_nil]; exact bb) ?_
  (try simp only [Act.put, List.setIfInBounds_toArray, List.set_cons_zero, List.set_cons_succ])
  refine wpList_built rfl 38 #[(0, .const (.int .u32 258)), (1, .const (.int .i64 16)), (2, .const (.int .i64 5)), (3, .tmp 24), (4, .tmp 25)] rfl (cs := SA.cells.toArray) (by simp only [List.map_toArray, List.map_cons, List.map_nil]; exact bA) ?_
  (try simp only [Act.put, List.setIfInBounds_toArray, List.set_cons_zero, List.set_cons_succ])
  refine wpList_new rfl spZ rfl ?_
  (try simp only [Act.put, List.setIfInBounds_toArray, List.set_cons_zero, List.set_cons_succ])
  refine wpList_store_row rfl 38 (.tmp 5) (.tmp 26) rfl _ SA.cells.toArray rfl rfl _ sp0.cells.toArray (heap_alloc_new _ _) iA sz0A (all_oneCell_toArray (one_sp _)) ?_
  (try simp only [Act.put, List.setIfInBounds_toArray, List.set_cons_zero, List.set_cons_succ])
  go_upto_region 4 with (fail)
  try rw [hY]
  clear hY
  have q50 := q5.at_
  have q5lt := q5.lt
  have hzB5 : w.heap.size ≤ Y5.heap.size := hB.size
  obtain ⟨Y6, hY, r, bY⟩ := newRow Y5 sp0.cells.toArray SA.cells.toArray 38
  have q6 := Rw.new hk (Nat.le_refl _) r
  replace q5 := q5.below bY
  replace hk := hk.below bY
  replace hB := hB.trans (bY.mono hB.size)
  clear r bY
  refine wp_region_lit ?_
  refine wpList_load_row rfl 38 (.tmp 5) rfl _ rfl _ SA.cells.toArray (0, 0) _ q50 Try.underlying38 rfl iA ?_
  (try simp only [Act.put, List.setIfInBounds_toArray, List.set_cons_zero, List.set_cons_succ])
  refine wpList_new rfl spZ rfl ?_
  (try simp only [Act.put, List.setIfInBounds_toArray, List.set_cons_zero, List.set_cons_succ])
  refine wpList_store_row rfl 38 (.tmp 6) (.tmp 27) rfl _ SA.cells.toArray rfl rfl _ sp0.cells.toArray (heap_alloc_new _ _) iA sz0A (all_oneCell_toArray (one_sp _)) ?_
  (try simp only [Act.put, List.setIfInBounds_toArray, List.set_cons_zero, List.set_cons_succ])
  go_upto_region 5 with (fail)
  try rw [hY]
  clear hY
  clear q50
  have c6 := blk_cell q6.at_ (k := 0) gA
  have f6 := blk_frozen q6.at_ 0
  go_upto_region 6 with (fail)
  have r6 := blk_set q6.at_ 0 (.int .u32 259)
  rw [HBS.out] at r6
  have bY : Below Y5.heap.size Y6 (Y6.setCell ⟨Y5.heap.size, 0, none⟩ (.int .u32 259)) := (Below.refl Y5.heap.size Y6).setCell (p := ⟨Y5.heap.size, 0, none⟩) (Nat.le_refl _) _
  obtain ⟨Y7, hY⟩ : ∃ Y, Y6.setCell ⟨Y5.heap.size, 0, none⟩ (.int .u32 259) = Y := ⟨_, rfl⟩
  rw [hY] at r6 bY
  replace q5 : Rw Y7 (w.heap.size + 1) w.heap.size (.slice none 0 0) Y3.heap.size SA.cells.toArray 38 := ⟨bBlk bY q5lt q5.at_, q5.no⟩
  replace q6 : Rw Y7 (w.heap.size + 1) w.heap.size (.slice none 0 0) Y5.heap.size SB.cells.toArray 38 := ⟨r6, q6.no⟩
  replace hk : Dk Y7 w.heap.size (w.heap.size + 1) w.heap.size (.slice none 0 0) (DS.new 16) := hk.kept (X := fun k => k = Y5.heap.size) (by rw [← hY]; exact (But.refl Y6.heap.size _ _).set (X := fun k => k = Y5.heap.size) (p := ⟨Y5.heap.size, 0, none⟩) rfl _) (Nat.le_refl _) (fun k e => e ▸ q6.no)
  replace hB := hB.trans (bY.mono hzB5)
  try rw [hY]
  clear hY r6 bY c6 f6
  have henc := encode_any oA Y7
  unfold spv bkv at henc
  have hEl := oA.enc
  have gd : SA.good = true := by rw [HAB.out.1]; exact sA_good
  have hE0 : SA.encE = 0 := by unfold SP.encE; rw [gd]; rfl
  rw [hE0] at henc
  obtain ⟨E, hE⟩ : ∃ l, SA.enc = l := ⟨_, rfl⟩
  rw [hE] at henc hEl
  have HE := Lib.hid hE
  clear hE hE0 gd
  have q50 := q5.at_
  refine wp_region_lit ?_
  refine wpList_load_row rfl 38 (.tmp 5) rfl _ rfl _ SA.cells.toArray (0, 0) _ q50 Try.underlying38 rfl iA ?_
  (try simp only [Act.put, List.setIfInBounds_toArray, List.set_cons_zero, List.set_cons_succ])
  go_wp2_with fail
  refine Calls.mono henc ?_
  rintro e W8 ⟨rfl, hb8⟩
  clear henc
  replace q5 := q5.below hb8
  replace q6 := q6.below hb8
  replace hk := hk.below hb8
  replace hB := hB.trans (hb8.mono hB.size)
  clear hb8
  obtain ⟨Y8, hY, r, bY⟩ := newRow W8 (bvs zblk).toArray (bvs E).toArray 40
  have q7 := Rw.new hk (Nat.le_refl _) r
  replace q5 := q5.below bY
  replace q6 := q6.below bY
  replace hk := hk.below bY
  replace hB := hB.trans (bY.mono hB.size)
  clear r bY
  go_upto_region 7 with (first
    | (refine wpList_new rfl blkZ rfl ?_)
    | (refine wpList_store_row rfl 40 (.tmp 7) (.tmp 32) rfl _ (bvs E).toArray rfl rfl _ (bvs zblk).toArray (heap_alloc_new _ _) (bk_info hEl) (blk_sizes zblk_len hEl) (all_oneCell_toArray (oneCell_bvs _)) ?_)
    | fail)
  try rw [hY]
  clear hY
  clear q50
  have hdec := decode_any hEl Y8
  have hd1 : decS E = SA ∧ decE E = 0 := by
    have gd : SA.good = true := by rw [HAB.out.1]; exact sA_good
    have hi := isS_enc oA gd
    rw [HE.out] at hi
    have hd := dec_enc oA gd
    rw [HE.out] at hd
    unfold decS decE
    rw [hi, hd]; exact ⟨rfl, rfl⟩
  rw [hd1.1, hd1.2] at hdec
  unfold spv bkv at hdec
  clear hd1
  have q70 := q7.at_
  refine wp_region_lit ?_
  refine wpList_load_row rfl 40 (.tmp 7) rfl _ rfl _ (bvs E).toArray (0, 0) _ q70 Try.underlying40 rfl (bk_info hEl) ?_
  (try simp only [Act.put, List.setIfInBounds_toArray, List.set_cons_zero, List.set_cons_succ])
  go_wp2_with fail
  refine Calls.mono hdec ?_
  rintro e W9 ⟨rfl, hb9⟩
  clear hdec
  replace q5 := q5.below hb9
  replace q6 := q6.below hb9
  replace q7 := q7.below hb9
  replace hk := hk.below hb9
  replace hB := hB.trans (hb9.mono hB.size)
  clear hb9
  obtain ⟨Y9, hY, r, bY⟩ := newRow W9 sp0.cells.toArray SA.cells.toArray 38
  have q9 := Rw.new hk (Nat.le_refl _) r
  replace q5 := q5.below bY
  replace q6 := q6.below bY
  replace q7 := q7.below bY
  replace hk := hk.below bY
  replace hB := hB.trans (bY.mono hB.size)
  clear r bY
  go_upto_region 8 with (first
    | (refine wpList_new rfl spZ rfl ?_)
    | (refine wpList_store_row rfl 38 (.tmp 9) (.tmp 37) rfl _ SA.cells.toArray rfl rfl _ sp0.cells.toArray (heap_alloc_new _ _) iA sz0A (all_oneCell_toArray (one_sp _)) ?_)
    | fail)
  try rw [hY]
  clear hY
  clear q70
  have sz0B := sp_sizes sp0_ok oB
  have hw1 := sput_any hk (by decide) (by decide) oA
  have hp1 : (DS.new 16).putE SA = 0 := by rw [HAB.out.1]; exact wA_is.1
  have hd1 : (DS.new 16).putS SA = wA := by rw [HAB.out.1]; rfl
  rw [hp1, hd1] at hw1
  unfold spv dp at hw1
  clear hp1 hd1
  have q50 := q5.at_
  have q60 := q6.at_
  go_upto_region 10 with (first
    | (refine wpList_load_row_g (by simp [Region.wanted, yielded, Act.put]) 38 (.tmp 5) rfl _ rfl _ SA.cells.toArray (0, 0) _ q50 Try.underlying38 rfl iA ?_)
    | (go_at_call 19; refine Calls.mono hw1 ?_; rintro e W10 ⟨rfl, v1, hk1, hs1⟩; have q61 := (q6.step hs1).at_; have hw2 := sput_any hk1 wA_bd.1 wA_bd.2 oB; rw [show wA.putE SB = 0 from by rw [HAB.out.2]; exact wB_is.1, show wA.putS SB = wB from by rw [HAB.out.2]; rfl] at hw2; unfold spv dp at hw2; clear hw1 q50 q60)
    | (refine wpList_load_row_g (by simp [Region.wanted, yielded, Act.put]) 38 (.tmp 6) rfl _ rfl _ SB.cells.toArray (0, 0) _ q61 Try.underlying38 rfl iB ?_)
    | (go_at_call 19; refine Calls.mono hw2 ?_; rintro e W11 ⟨rfl, v2, hk2, hs2⟩; clear hw2 q61)
    | fail)
  replace q5 := q5.step hs1
  replace q6 := q6.step hs1
  replace q7 := q7.step hs1
  replace q9 := q9.step hs1
  replace hB := hB.trans (DStep.below hk hs1)
  replace hk := hk1
  clear hs1 hk1
  replace q5 := q5.step hs2
  replace q6 := q6.step hs2
  replace q7 := q7.step hs2
  replace q9 := q9.step hs2
  replace hB := hB.trans (DStep.below hk hs2)
  replace hk := hk2
  clear hs2 hk2
  have hnw := newest_any hk wB_bd.2
  rw [wB_newest.1, wB_newest.2, ← HAB.out.2] at hnw
  unfold spv dp at hnw
  go_wp2_with fail
  refine Calls.mono hnw ?_
  rintro e W12 ⟨rfl, hb12⟩
  clear hnw
  replace q5 := q5.below hb12
  replace q6 := q6.below hb12
  replace q7 := q7.below hb12
  replace q9 := q9.below hb12
  replace hk := hk.below hb12
  replace hB := hB.trans (hb12.mono hB.size)
  clear hb12
  obtain ⟨Y12, hY, r, bY⟩ := newRow W12 sp0.cells.toArray SB.cells.toArray 38
  have q11 := Rw.new hk (Nat.le_refl _) r
  replace q5 := q5.below bY
  replace q6 := q6.below bY
  replace q7 := q7.below bY
  replace q9 := q9.below bY
  replace hk := hk.below bY
  replace hB := hB.trans (bY.mono hB.size)
  clear r bY
  go_upto_region 11 with (first
    | (refine wpList_new rfl spZ rfl ?_)
    | (refine wpList_store_row rfl 38 (.tmp 11) (.tmp 60) rfl _ SB.cells.toArray rfl rfl _ sp0.cells.toArray (heap_alloc_new _ _) iB sz0B (all_oneCell_toArray (one_sp _)) ?_)
    | fail)
  try rw [hY]
  clear hY
  have hw3 := write_any hk wB_bd.1 wB_bd.2 1 zblk_len
  unfold dp bkv at hw3
  go_upto_region 12 with (first
    | (refine wpList_built rfl 40 #[] rfl (cs := (bvs zblk).toArray) (by simp only [List.map_toArray, List.map_nil]; exact built_blk0) ?_)
    | (go_at_call 21; refine Calls.mono hw3 ?_; rintro e W13 ⟨rfl, v3, hk3, hs3⟩)
    | fail)
  clear hw3
  replace q5 := q5.step hs3
  replace q6 := q6.step hs3
  replace q7 := q7.step hs3
  replace q9 := q9.step hs3
  replace q11 := q11.step hs3
  replace hB := hB.trans (DStep.below hk hs3)
  replace hk := hk3
  clear hs3 hk3
  have hnw := newest_any hk wC_bd
  rw [show (wB.write 1 zblk).newest = SA from by rw [HAB.out.1]; exact wC_newest.1, show (wB.write 1 zblk).newestE = 0 from wC_newest.2] at hnw
  unfold spv dp at hnw
  go_wp2_with fail
  refine Calls.mono hnw ?_
  rintro e W14 ⟨rfl, hb14⟩
  clear hnw
  replace q5 := q5.below hb14
  replace q6 := q6.below hb14
  replace q7 := q7.below hb14
  replace q9 := q9.below hb14
  replace q11 := q11.below hb14
  replace hk := hk.below hb14
  replace hB := hB.trans (hb14.mono hB.size)
  clear hb14
  obtain ⟨Y14, hY, r, bY⟩ := newRow W14 sp0.cells.toArray SA.cells.toArray 38
  have q13 := Rw.new hk (Nat.le_refl _) r
  replace q5 := q5.below bY
  replace q6 := q6.below bY
  replace q7 := q7.below bY
  replace q9 := q9.below bY
  replace q11 := q11.below bY
  replace hk := hk.below bY
  replace hB := hB.trans (bY.mono hB.size)
  clear r bY
  have a5 := q5.at_
  have a6 := q6.at_
  have a9 := q9.at_
  have a11 := q11.at_
  have a13 := q13.at_
  have hEE : E = sA.enc := by rw [← HE.out, HAB.out.1]
  obtain ⟨x0, x3, x4, x5, x6, x7, x39⟩ := sA_at
  rw [← hEE] at x0 x3 x4 x5 x6 x7 x39
  have d0 := blk_cell q7.at_ (bvs_get x0)
  have d3 := blk_cell q7.at_ (bvs_get x3)
  have d4 := blk_cell q7.at_ (bvs_get x4)
  have d5 := blk_cell q7.at_ (bvs_get x5)
  have d6 := blk_cell q7.at_ (bvs_get x6)
  have d7 := blk_cell q7.at_ (bvs_get x7)
  have d39 := blk_cell q7.at_ (bvs_get x39)
  have hsA := fun w => sp_same oA w
  have hsB := fun w => sp_same oB w
  have hgd := fun W => good_any oA W
  rw [show SA.good = true from by rw [HAB.out.1]; exact sA_good] at hgd
  unfold spv at hgd
  clear x0 x3 x4 x5 x6 x7 x39 hEE q5 q6 q7 q9 q11 q13 hk HE
  simp only [bv, UInt8.reduceToNat] at d0 d3 d4 d5 d6 d7 d39
  go_wp2_with (first
    | (refine wpList_new rfl spZ rfl ?_)
    | (refine wpList_store_row rfl 38 (.tmp 13) (.tmp 68) rfl _ SA.cells.toArray rfl rfl _ sp0.cells.toArray (heap_alloc_new _ _) iA sz0A (all_oneCell_toArray (one_sp _)) ?_)
    | (refine wpList_load_row_g (by simp [Region.wanted, yielded, Act.put]) 38 (.tmp 9) rfl _ rfl _ SA.cells.toArray (0, 0) _ a9 Try.underlying38 rfl iA ?_)
    | (refine wpList_load_row_g (by simp [Region.wanted, yielded, Act.put]) 38 (.tmp 5) rfl _ rfl _ SA.cells.toArray (0, 0) _ a5 Try.underlying38 rfl iA ?_)
    | (refine wpList_load_row_g (by simp [Region.wanted, yielded, Act.put]) 38 (.tmp 11) rfl _ rfl _ SB.cells.toArray (0, 0) _ a11 Try.underlying38 rfl iB ?_)
    | (refine wpList_load_row_g (by simp [Region.wanted, yielded, Act.put]) 38 (.tmp 6) rfl _ rfl _ SB.cells.toArray (0, 0) _ a6 Try.underlying38 rfl iB ?_)
    | (refine wpList_load_row_g (by simp [Region.wanted, yielded, Act.put]) 38 (.tmp 13) rfl _ rfl _ SA.cells.toArray (0, 0) _ a13 Try.underlying38 rfl iA ?_)
    | (go_at_call 49; refine Calls.mono (hgd _) ?_; rintro e W15 ⟨rfl, hb15⟩)
    | fail)
  go_ret
  exact Ret.mk rfl (hB.trans (hb15.mono hB.size))
end Go.Proofs.Ytnkdbkgihemjnaa
