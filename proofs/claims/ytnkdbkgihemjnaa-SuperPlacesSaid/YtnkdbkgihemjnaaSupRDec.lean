/- The walk over the reference's Decode. -/
import Derived.Test.YtnkdbkgihemjnaaSupDec
namespace Go.Proofs.Ytnkdbkgihemjnaa
set_option linter.unusedSimpArgs false
set_option linter.unusedVariables false
open Go.RowKit Go.ChangeShapes Go.WideShapes Go.Sort

attribute [-go_sem] Builtin.append_
set_option maxHeartbeats 8000000 in
set_option maxRecDepth 100000 in
theorem rdecode_any {b : Blk} (hb : b.length = 128) (w : World) : Calls Try.prog 48 #[bkv b] w (Ret w (.tuple #[spv (decS b), .int .i64 (decE b)])) := by
  unfold spv bkv
  go_enter Try.func48, Try.ntmps48
  go_upto_region 1 with (first | (refine wpList_new rfl spZ rfl ?_) | fail)
  obtain ⟨W, hW⟩ : ∃ W, (w.alloc (.cells (bvs b).toArray 40)).alloc (.cells sp0.cells.toArray 38) = W := ⟨_, rfl⟩
  simp only [hW]
  have b1 : W.heap[w.heap.size]? = some (.cells (bvs b).toArray 40) := by rw [← hW]; exact (Below.heap_alloc _ _ _ (by simp)).trans (heap_alloc_new _ _)
  have b2 : W.heap[w.heap.size + 1]? = some (.cells sp0.cells.toArray 38) := by rw [← hW]; exact heap_alloc_two _ _ _
  have hB : Below w.heap.size w W := by rw [← hW]; exact ((Below.refl _ _).alloc (Nat.le_refl _) _).alloc (by simp) _
  clear hW
  have hat : ∀ i, i < 128 → W.cell? ⟨w.heap.size, i, none⟩ = some (.int .u8 ((at8 b i).toNat : Int)) := fun i hi => blk_cell b1 (by
    unfold at8
    rw [List.getElem?_eq_getElem (by omega)]
    simp [bvs, bv, hb, hi])
  have k1 := hat 1 (by omega)
  have k2 := hat 2 (by omega)
  have k3 := hat 3 (by omega)
  have k4 := hat 4 (by omega)
  have k5 := hat 5 (by omega)
  have k6 := hat 6 (by omega)
  have l1 := (at8 b 1).toNat_lt
  have l2 := (at8 b 2).toNat_lt
  have l3 := (at8 b 3).toNat_lt
  have l4 := (at8 b 4).toNat_lt
  have l5 := (at8 b 5).toNat_lt
  have l6 := (at8 b 6).toNat_lt
  clear hat
  refine wp_region_lit ?_
  iterate 72 (first | go_guarded | go_step)
  have l5' : -9223372036854775808 ≤ (((at8 b 5).toNat : Nat) : Int) ∧ (((at8 b 5).toNat : Nat) : Int) ≤ 9223372036854775807 := by omega
  have l6' : -9223372036854775808 ≤ (((at8 b 6).toNat : Nat) : Int) ∧ (((at8 b 6).toNat : Nat) : Int) ≤ 9223372036854775807 := by omega
  obtain ⟨G, hG⟩ : ∃ G : Nat, (at8 b 1).toNat * 16777216 + (at8 b 2).toNat * 65536 + (at8 b 3).toNat * 256 + (at8 b 4).toNat = G := ⟨_, rfl⟩
  have hG5 : G < 4294967296 := by omega
  have hor : ((at8 b 1).toNat : Int) * 16777216 + ((at8 b 2).toNat : Int) * 65536 + ((at8 b 3).toNat : Int) * 256 + ((at8 b 4).toNat : Int) = (G : Int) := by
    rw [← hG]; simp only [Int.natCast_add, Int.natCast_mul]; rfl
  rw [hor]
  clear hor
  refine wpList_built rfl 38 #[(0, .tmp 24), (1, .tmp 27), (2, .tmp 30)] rfl (cs := (sp3 G (at8 b 5).toNat (at8 b 6).toNat).cells.toArray) (by simp only [List.map_toArray, List.map_cons, List.map_nil]; exact built_sp3 G (at8 b 5).toNat (at8 b 6).toNat) ?_
  (try simp only [Act.put, List.setIfInBounds_toArray, List.set_cons_zero, List.set_cons_succ])
  refine wpList_new rfl spZ rfl ?_
  (try simp only [Act.put, List.setIfInBounds_toArray, List.set_cons_zero, List.set_cons_succ])
  refine wpList_store_row rfl 38 (.tmp 4) (.tmp 31) rfl _ (sp3 G (at8 b 5).toNat (at8 b 6).toNat).cells.toArray rfl rfl _ sp0.cells.toArray (heap_alloc_new _ _) (sp_info (sp3_ok hG5 l5' l6')) (by rw [List.size_toArray, List.size_toArray, sp0_ok.len, (sp3_ok hG5 l5' l6').len]) (all_oneCell_toArray (one_sp _)) ?_
  (try simp only [Act.put, List.setIfInBounds_toArray, List.set_cons_zero, List.set_cons_succ])
  go_upto_region 2 with (fail)
  obtain ⟨W2, hW2⟩ : ∃ X, (W.alloc (.cells sp0.cells.toArray 38)).setRow W.heap.size (sp3 G (at8 b 5).toNat (at8 b 6).toNat).cells.toArray = X := ⟨_, rfl⟩
  try rw [hW2]
  have c4 : W2.heap[W.heap.size]? = some (.cells (sp3 G (at8 b 5).toNat (at8 b 6).toNat).cells.toArray 38) := by rw [← hW2]; exact setRow_heap _ _ _ _ _ _ (heap_alloc_new _ _)
  have hb2 : Below W.heap.size W W2 := by rw [← hW2]; exact bSetRow ((Below.refl _ _).alloc (Nat.le_refl _) _) (Nat.le_refl _) _
  clear hW2
  have hz1 : w.heap.size + 1 < W.heap.size := (Array.getElem?_eq_some_iff.1 b2).1
  have c1 := bBlk hb2 (by omega) b1
  have c2 := bBlk hb2 (by omega) b2
  have hB2 := hB.trans (hb2.mono hB.size)
  have hP : decP b = ⟨G, ((at8 b 5).toNat : Nat), ((at8 b 6).toNat : Nat), (b.drop 7).take 32, (b.drop 39).take 16⟩ := by unfold decP; rw [hG]
  have hpok := decP_ok hb
  have hLl : ((b.drop 7).take 32).length = 32 := by simp [hb]
  have hUl : ((b.drop 39).take 16).length = 16 := by simp [hb]
  have r0 : W2.rangeAt w.heap.size 0 (bvs b) := fun j v hj => by rw [Nat.zero_add]; exact blk_cell c1 (by simpa using hj)
  have rL := range_cut r0 7 32
  have rU := range_cut r0 39 16
  rw [Nat.zero_add, show ((bvs b).drop 7).take 32 = bvs ((b.drop 7).take 32) from by simp [bvs, List.map_take, List.map_drop]] at rL
  rw [Nat.zero_add, show ((bvs b).drop 39).take 16 = bvs ((b.drop 39).take 16) from by simp [bvs, List.map_take, List.map_drop]] at rU
  obtain ⟨sf1, sf2⟩ := sp_fill G ((at8 b 5).toNat : Nat) ((at8 b 6).toNat : Nat) hLl hUl
  obtain ⟨L, hL⟩ : ∃ l, (b.drop 7).take 32 = l := ⟨_, rfl⟩
  obtain ⟨U, hU⟩ : ∃ l, (b.drop 39).take 16 = l := ⟨_, rfl⟩
  obtain ⟨C3, hC3⟩ : ∃ c, (sp3 G (at8 b 5).toNat (at8 b 6).toNat).cells.toArray = c := ⟨_, rfl⟩
  have hC51 : C3.size = 51 := by rw [← hC3, List.size_toArray, (sp3_ok hG5 l5' l6').len]
  rw [hL] at hP rL hLl sf1 sf2
  rw [hU] at hP rU hUl sf1 sf2
  rw [← hP] at sf1 sf2
  rw [hC3] at sf1 sf2 c4
  have HF := Lib.hid (And.intro sf1 sf2)
  clear hP hL hU hC3 hG r0 b1 b2 sf1 sf2 k1 k2 k3 k4 k5 k6 l1 l2 l3 l4 l5 l6
  have hcopy := fun ty => run_copy_cells (P := Try.prog) W2.drew 41 41 ty 5 W.heap.size 3 32 32 ⟨w.heap.size, 7, none⟩ 32 121 (bvs L) Try.underlying41 (by kernel_rfl) (by rw [bvs_len, hLl]; rfl) (fun j v hj => by rw [addr_add]; exact rL j v hj)
    (fun j hj => ((there_blk (W := W2.drew) c4 (o := 3) (n := 32) (by (try rw [setMany_size]); rw [hC51]; omega)) j (by rw [bvs_len, hLl] at hj; exact hj)).1) (fun j hj => blk_frozen (W := W2.drew) c4 _) (oneCell_bvs _)
  rw [bvs_len, hLl] at hcopy
  have d4 := blk_sets (bvs L) 3 (W := W2.drew) c4
  have f1 := (sets_far (bvs L) W2.drew W.heap.size 3 w.heap.size (by omega)).trans c1
  have f2 := (sets_far (bvs L) W2.drew W.heap.size 3 (w.heap.size + 1) (by omega)).trans c2
  have rU1 : (W2.drew.setCells W.heap.size 3 (bvs L)).rangeAt w.heap.size 39 (bvs U) := World.rangeAt_setCells_apart (w := W2.drew) rU _ _ _ (.inl (by omega))
  have hB1 : But w.heap.size (fun k => k = W.heap.size) w (W2.drew.setCells W.heap.size 3 (bvs L)) := but_sets (X := fun k => k = W.heap.size) _ _ _ ((but_of hB2).drew) rfl
  let S : World → Prop := fun _ => True
  refine wp_region_held (S := S) (by kernel_rfl) ?_
  change wpAnyH _ _ _ _ S _ _ _ W2.drew
  have hS0 : S W2.drew := trivial
  refine wpAnyH_take (i := 0) (oi := ?oi_42) (v := ?v_42) ?ho_42 ?h1_42 ?h2_42 ?h3_42 ?hq_42 (Or.inl ⟨?hw_42, ?hy_42⟩) ?hs_42 ?rest_42; (case h2_42 => kernel_rfl); (case h3_42 => kernel_rfl); (case ho_42 => (simp only [List.getElem?_toArray, List.getElem?_cons_zero, List.getElem?_cons_succ]; rfl)); (case h1_42 => kernel_rfl); (case hq_42 => exact fun _ _ _ h => h); (case hw_42 => rfl); (case hy_42 => (intro w' hSw; (try simp only [S] at hSw); go_simp; (try with_reducible rfl))); (case hs_42 => assumption); (try simp only [Act.put, List.setIfInBounds_toArray, List.set_cons_zero, List.set_cons_succ])
  refine wpAnyH_take (i := 1) (oi := ?oi_43) (v := ?v_43) ?ho_43 ?h1_43 ?h2_43 ?h3_43 ?hq_43 (Or.inl ⟨?hw_43, ?hy_43⟩) ?hs_43 ?rest_43; (case h2_43 => kernel_rfl); (case h3_43 => kernel_rfl); (case ho_43 => (simp only [List.getElem?_toArray, List.getElem?_cons_zero, List.getElem?_cons_succ]; rfl)); (case h1_43 => kernel_rfl); (case hq_43 => exact fun _ _ _ h => h); (case hw_43 => rfl); (case hy_43 => (intro w' hSw; (try simp only [S] at hSw); go_simp; (try with_reducible rfl))); (case hs_43 => assumption); (try simp only [Act.put, List.setIfInBounds_toArray, List.set_cons_zero, List.set_cons_succ])
  refine wpAnyH_take (i := 2) (oi := ?oi_44) (v := ?v_44) ?ho_44 ?h1_44 ?h2_44 ?h3_44 ?hq_44 (Or.inl ⟨?hw_44, ?hy_44⟩) ?hs_44 ?rest_44; (case h2_44 => kernel_rfl); (case h3_44 => kernel_rfl); (case ho_44 => (simp only [List.getElem?_toArray, List.getElem?_cons_zero, List.getElem?_cons_succ]; rfl)); (case h1_44 => kernel_rfl); (case hq_44 => exact fun _ _ _ h => h); (case hw_44 => rfl); (case hy_44 => (intro w' hSw; (try simp only [S] at hSw); go_simp; (try with_reducible rfl))); (case hs_44 => assumption); (try simp only [Act.put, List.setIfInBounds_toArray, List.set_cons_zero, List.set_cons_succ])
  refine wpAnyH_ready (rs := [3]) (by kernel_rfl) (by simp) (AllReadyH.cons (o := ?oo3_48) ?hoo3_48 (fun K hK => ?steponly48) AllReadyH.nil); (case hoo3_48 => (simp only [List.getElem?_toArray, List.getElem?_cons_zero, List.getElem?_cons_succ]; rfl))
  go_simp
  refine hK.out _ _ trivial (fun _ => ?_)
  clear hK K hcopy
  (try simp only [Act.put, List.setIfInBounds_toArray, List.set_cons_zero, List.set_cons_succ])
  refine wpAnyH_done (by kernel_rfl) ?_ _
  go_upto_region 3 with (fail)
  obtain ⟨X1, hX1⟩ : ∃ X, W2.drew.setCells W.heap.size 3 (bvs L) = X := ⟨_, rfl⟩
  try rw [hX1]
  rw [hX1] at d4 f1 f2 rU1 hB1
  clear hX1
  have hcopy := fun ty => run_copy_cells (P := Try.prog) X1.drew 41 41 ty 5 W.heap.size 35 16 16 ⟨w.heap.size, 39, none⟩ 16 89 (bvs U) Try.underlying41 (by kernel_rfl) (by rw [bvs_len, hUl]; rfl) (fun j v hj => by rw [addr_add]; exact rU1 j v hj)
    (fun j hj => ((there_blk (W := X1.drew) d4 (o := 35) (n := 16) (by (try rw [setMany_size]); rw [hC51]; omega)) j (by rw [bvs_len, hUl] at hj; exact hj)).1) (fun j hj => blk_frozen (W := X1.drew) d4 _) (oneCell_bvs _)
  rw [bvs_len, hUl] at hcopy
  have e4 := blk_sets (bvs U) 35 (W := X1.drew) d4
  rw [HF.out.1] at e4
  have e1 := (sets_far (bvs U) X1.drew W.heap.size 35 w.heap.size (by omega)).trans f1
  have e2 := (sets_far (bvs U) X1.drew W.heap.size 35 (w.heap.size + 1) (by omega)).trans f2
  have hBX : Below w.heap.size w (X1.drew.setCells W.heap.size 35 (bvs U)) := (but_sets (X := fun k => k = W.heap.size) _ _ _ hB1.drew rfl).below (Nat.le_refl _) (fun k e => by omega)
  refine wp_region_held (S := S) (by kernel_rfl) ?_
  change wpAnyH _ _ _ _ S _ _ _ X1.drew
  have hS0 : S X1.drew := trivial
  refine wpAnyH_take (i := 0) (oi := ?oi_45) (v := ?v_45) ?ho_45 ?h1_45 ?h2_45 ?h3_45 ?hq_45 (Or.inl ⟨?hw_45, ?hy_45⟩) ?hs_45 ?rest_45; (case h2_45 => kernel_rfl); (case h3_45 => kernel_rfl); (case ho_45 => (simp only [List.getElem?_toArray, List.getElem?_cons_zero, List.getElem?_cons_succ]; rfl)); (case h1_45 => kernel_rfl); (case hq_45 => exact fun _ _ _ h => h); (case hw_45 => rfl); (case hy_45 => (intro w' hSw; (try simp only [S] at hSw); go_simp; (try with_reducible rfl))); (case hs_45 => assumption); (try simp only [Act.put, List.setIfInBounds_toArray, List.set_cons_zero, List.set_cons_succ])
  refine wpAnyH_take (i := 1) (oi := ?oi_46) (v := ?v_46) ?ho_46 ?h1_46 ?h2_46 ?h3_46 ?hq_46 (Or.inl ⟨?hw_46, ?hy_46⟩) ?hs_46 ?rest_46; (case h2_46 => kernel_rfl); (case h3_46 => kernel_rfl); (case ho_46 => (simp only [List.getElem?_toArray, List.getElem?_cons_zero, List.getElem?_cons_succ]; rfl)); (case h1_46 => kernel_rfl); (case hq_46 => exact fun _ _ _ h => h); (case hw_46 => rfl); (case hy_46 => (intro w' hSw; (try simp only [S] at hSw); go_simp; (try with_reducible rfl))); (case hs_46 => assumption); (try simp only [Act.put, List.setIfInBounds_toArray, List.set_cons_zero, List.set_cons_succ])
  refine wpAnyH_take (i := 2) (oi := ?oi_47) (v := ?v_47) ?ho_47 ?h1_47 ?h2_47 ?h3_47 ?hq_47 (Or.inl ⟨?hw_47, ?hy_47⟩) ?hs_47 ?rest_47; (case h2_47 => kernel_rfl); (case h3_47 => kernel_rfl); (case ho_47 => (simp only [List.getElem?_toArray, List.getElem?_cons_zero, List.getElem?_cons_succ]; rfl)); (case h1_47 => kernel_rfl); (case hq_47 => exact fun _ _ _ h => h); (case hw_47 => rfl); (case hy_47 => (intro w' hSw; (try simp only [S] at hSw); go_simp; (try with_reducible rfl))); (case hs_47 => assumption); (try simp only [Act.put, List.setIfInBounds_toArray, List.set_cons_zero, List.set_cons_succ])
  refine wpAnyH_ready (rs := [3]) (by kernel_rfl) (by simp) (AllReadyH.cons (o := ?oo3_49) ?hoo3_49 (fun K hK => ?steponly49) AllReadyH.nil); (case hoo3_49 => (simp only [List.getElem?_toArray, List.getElem?_cons_zero, List.getElem?_cons_succ]; rfl))
  go_simp
  refine hK.out _ _ trivial (fun _ => ?_)
  clear hK K hcopy
  (try simp only [Act.put, List.setIfInBounds_toArray, List.set_cons_zero, List.set_cons_succ])
  generalize X1.drew.setCells W.heap.size 35 (bvs U) = X at *
  refine wpAnyH_done (by kernel_rfl) ?_ _
  clear f1 f2 rU1 hB1 d4 c1 c2 c4 rL rU HF hC51 hLl hUl hB2 hb2 hB l5' l6' hG5
  have HD := Lib.hid (And.intro (show decS b = if isS b then decP b else sp0 from rfl) (And.intro (show decE b = if isS b then 0 else 11 from rfl) (show isS b = ((decP b).good && ((decP b).enc == b)) from rfl)))
  have hEl := hpok.enc
  have henc := fun W => rencode_any hpok W
  have hsi := sp_info hpok
  unfold spv bkv at henc
  generalize decP b = s at *
  have HG : Hid (s.encE = if s.good then 0 else 11) := Lib.hid rfl
  obtain ⟨E, hE⟩ : ∃ l, s.enc = l := ⟨_, rfl⟩
  rw [hE] at henc hEl HD
  go_upto_region 5 with (first
    | (refine wpList_load_row rfl 38 (.tmp 4) rfl _ rfl _ s.cells.toArray (0, 0) _ e4 Try.underlying38 rfl hsi ?_)
    | (go_at_call 46; refine Calls.mono (henc _) ?_; rintro e X1 ⟨rfl, hb1⟩)
    | (refine wpList_new rfl blkZ rfl ?_)
    | (refine wpList_store_row rfl 40 (.tmp 5) (.tmp 43) rfl _ (bvs E).toArray rfl rfl _ (bvs zblk).toArray (heap_alloc_new _ _) (bk_info hEl) (blk_sizes zblk_len hEl) (all_oneCell_toArray (oneCell_bvs _)) ?_)
    | fail)
  obtain ⟨Y, hY⟩ : ∃ Y, (X1.alloc (.cells (bvs zblk).toArray 40)).setRow X1.heap.size (bvs E).toArray = Y := ⟨_, rfl⟩
  rw [hY]
  have y5 : Y.heap[X1.heap.size]? = some (.cells (bvs E).toArray 40) := by rw [← hY]; exact setRow_heap _ _ _ _ _ _ (heap_alloc_new _ _)
  have hbY : Below X1.heap.size X1 Y := by rw [← hY]; exact bSetRow ((Below.refl _ _).alloc (Nat.le_refl _) _) (Nat.le_refl _) _
  clear hY
  have hzX : W.heap.size < X.heap.size := (Array.getElem?_eq_some_iff.1 e4).1
  have hzX1 := hb1.size
  have hb2 : Below X.heap.size X Y := hb1.trans (hbY.mono hzX1)
  have y1 := bBlk hb2 (by omega) e1
  have y2 := bBlk hb2 (by omega) e2
  have y4 := bBlk hb2 hzX e4
  have hBY := hBX.trans (hb2.mono hBX.size)
  have hin : (Try.prog.info? 38).map (·.size) = some sp0.cells.toArray.size := sp_info sp0_ok
  have hsz2 : s.cells.toArray.size = sp0.cells.toArray.size := by rw [List.size_toArray, List.size_toArray, hpok.len, sp0_ok.len]
  clear hb1 hb2 hbY e1 e2 e4 hBX henc
  obtain ⟨V, hV⟩ : ∃ V, Y.setRow (w.heap.size + 1) sp0.cells.toArray = V := ⟨_, rfl⟩
  have v2 : V.heap[w.heap.size + 1]? = some (.cells sp0.cells.toArray 38) := by rw [← hV]; exact setRow_heap _ _ _ _ _ _ y2
  have hBV : Below w.heap.size w V := by rw [← hV]; exact bSetRow hBY (by omega) _
  obtain ⟨U2, hU2⟩ : ∃ V, Y.setRow (w.heap.size + 1) s.cells.toArray = V := ⟨_, rfl⟩
  have u2 : U2.heap[w.heap.size + 1]? = some (.cells s.cells.toArray 38) := by rw [← hU2]; exact setRow_heap _ _ _ _ _ _ y2
  have hBU : Below w.heap.size w U2 := by rw [← hU2]; exact bSetRow hBY (by omega) _
  have hld := run_loadVar_row (P := Try.prog) V _ _ 38 _ _ _ v2 Try.underlying38 rfl hin
  have hld2 := run_loadVar_row (P := Try.prog) U2 _ _ 38 _ _ _ u2 Try.underlying38 rfl hsi
  cases hg : s.good
  · rw [hg] at HG HD
    have HE := HG.out
    simp only [Bool.false_eq_true, if_false] at HE
    rw [HE]
    clear hg HE hld2 u2 hBU hU2
    go_wp2_with (first
      | (refine wpList_built rfl 38 #[] rfl (cs := sp0.cells.toArray) (by simp only [List.map_toArray, List.map_nil]; exact built_sp0) ?_)
      | (refine wpList_store_row rfl 38 (.tmp 2) (.tmp 52) rfl _ sp0.cells.toArray rfl rfl _ sp0.cells.toArray y2 hin rfl (all_oneCell_toArray (one_sp _)) ?_)
      | fail)
    try rw [hV]
    refine bodyPost_ret (by simp [results, Try.results48, Act.put, asAddr, Result.andThen, hld]; try rfl) rfl ?_
    refine Ret.mk ?_ hBV
    have h3 := HD.out.2.2
    simp only [Bool.false_and] at h3
    rw [HD.out.1, HD.out.2.1, h3]
    rfl
  · rw [hg] at HG HD
    have HE := HG.out
    simp only [if_true] at HE
    rw [HE]
    have hq := fun w => bk_eq hEl hb w
    obtain ⟨q, hqq⟩ : ∃ q, (E == b) = q := ⟨_, rfl⟩
    rw [hqq] at hq HD
    clear hqq hg HE
    cases q
    · clear hld2 u2 hBU hU2
      go_wp2_with (first
      | (refine wpList_load_row_g (by simp [Region.wanted, yielded, Act.put]) 40 (.tmp 5) rfl _ rfl _ (bvs E).toArray (0, 0) _ y5 Try.underlying40 rfl (bk_info hEl) ?_)
      | (refine wpList_load_row_g (by simp [Region.wanted, yielded, Act.put]) 40 (.tmp 1) rfl _ rfl _ (bvs b).toArray (0, 0) _ y1 Try.underlying40 rfl (bk_info hb) ?_)
        | (refine wpList_built rfl 38 #[] rfl (cs := sp0.cells.toArray) (by simp only [List.map_toArray, List.map_nil]; exact built_sp0) ?_)
        | (refine wpList_store_row rfl 38 (.tmp 2) (.tmp 52) rfl _ sp0.cells.toArray rfl rfl _ sp0.cells.toArray y2 hin rfl (all_oneCell_toArray (one_sp _)) ?_)
        | fail)
      try rw [hV]
      refine bodyPost_ret (by simp [results, Try.results48, Act.put, asAddr, Result.andThen, hld]; try rfl) rfl ?_
      refine Ret.mk ?_ hBV
      have h3 := HD.out.2.2
      simp only [Bool.and_false] at h3
      rw [HD.out.1, HD.out.2.1, h3]
      rfl
    · clear hld v2 hBV hV
      go_wp2_with (first
      | (refine wpList_load_row_g (by simp [Region.wanted, yielded, Act.put]) 40 (.tmp 5) rfl _ rfl _ (bvs E).toArray (0, 0) _ y5 Try.underlying40 rfl (bk_info hEl) ?_)
      | (refine wpList_load_row_g (by simp [Region.wanted, yielded, Act.put]) 40 (.tmp 1) rfl _ rfl _ (bvs b).toArray (0, 0) _ y1 Try.underlying40 rfl (bk_info hb) ?_)
        | (refine wpList_load_row rfl 38 (.tmp 4) rfl _ rfl _ s.cells.toArray (0, 0) _ y4 Try.underlying38 rfl hsi ?_)
        | (refine wpList_store_row rfl 38 (.tmp 2) (.tmp 53) rfl _ s.cells.toArray rfl rfl _ sp0.cells.toArray y2 hsi hsz2.symm (all_oneCell_toArray (one_sp _)) ?_)
        | fail)
      try rw [hU2]
      refine bodyPost_ret (by simp [results, Try.results48, Act.put, asAddr, Result.andThen, hld2]; try rfl) rfl ?_
      refine Ret.mk ?_ hBU
      have h3 := HD.out.2.2
      simp only [Bool.and_true] at h3
      rw [HD.out.1, HD.out.2.1, h3]
      rfl
end Go.Proofs.Ytnkdbkgihemjnaa
