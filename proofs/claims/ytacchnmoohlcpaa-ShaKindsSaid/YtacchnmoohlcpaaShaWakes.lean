/- The walk over package codexlaw02's own test. -/
import Derived.Test.YtacchnmoohlcpaaShaSmall
import Derived.Stop.BytesEq
import Derived.Lib.SlBytesConst
namespace Go.Proofs.Ytacchnmoohlcpaa
set_option linter.unusedSimpArgs false
set_option linter.unusedVariables false
open Go.RowKit
attribute [-go_sem] Builtin.append_

theorem u8_sizeOf (w : World) : (sizeOf 5).run Try.prog w = .ok 1 w := by
  have h : (Try.prog.info? 5).map (·.size) = some 1 := by kernel_rfl
  cases hq : Try.prog.info? 5 with
  | none => rw [hq] at h; cases h
  | some i =>
    rw [hq] at h
    have hs : i.size = 1 := by simpa using h
    simp [sizeOf, typeInfo, hq, hs]
theorem dg_eq {x y : List UInt8} (hx : x.length = 32) (hy : y.length = 32) (w : World) : (Op.equalIn 10000 24 (.agg (bvs x).toArray) (.agg (bvs y).toArray)).run Try.prog w = .ok (x == y) w :=
  run_equalIn_bytes (P := Try.prog) w 9998 24 5 32 Try.underlying24 Try.underlying5 u8_sizeOf x y hx hy
theorem dg_same {x : List UInt8} (hx : x.length = 32) (w : World) : (Op.equalIn 10000 24 (.agg (bvs x).toArray) (.agg (bvs x).toArray)).run Try.prog w = .ok true w := by
  have := dg_eq hx hx w
  rwa [beq_self_eq_true] at this
theorem d4_same {x : List UInt8} (hx : x.length = 4) (w : World) : (Op.equalIn 10000 27 (.agg (bvs x).toArray) (.agg (bvs x).toArray)).run Try.prog w = .ok true w := by
  have := run_equalIn_bytes (P := Try.prog) w 9998 27 5 4 Try.underlying27 Try.underlying5 u8_sizeOf x x hx hx
  rwa [beq_self_eq_true] at this
theorem conv_new (W : World) (C : Array Value) (n c : Nat) : (convert 22 22 (.slice (some ⟨W.heap.size, 0, none⟩) n c)).run Try.prog (W.alloc (.cells C 5)) = .ok (.slice (some ⟨W.heap.size, 0, none⟩) n c) (W.alloc (.cells C 5 (C.size, C.size + 1))) :=
  Lib.run_convert_bytes_const W 22 5 C n c Try.underlying22 Try.underlying5
theorem abc_lt : lt8 (sha [97, 98, 99]) (sha []) = true := by rw [sha_abc, sha_none]; decide
theorem abc_gt : lt8 (sha []) (sha [97, 98, 99]) = false := lt8_asymm abc_lt
def F4 : List UInt8 := [186, 120, 22, 191]
theorem abc_first : first4 [97, 98, 99] = F4 := by unfold first4; rw [sha_abc]; rfl
theorem abc_kind : sha (u8 97 :: [98, 99]) = sha [97, 98, 99] := by rw [show u8 97 = 97 from by decide]
theorem sl_nil (w : World) (B : Nat) : Sl w B 1 none 0 (bvs []) := Sl.nil
set_option maxHeartbeats 4000000 in
set_option maxRecDepth 100000 in
theorem wakes_any (w : World) : Calls Try.prog 15 #[] w (Ret w (.bool true)) := by
  have hsum := fun W A B c h1 h2 => sum_any (l := [97, 98, 99]) (A := A) (B := B) (c := c) (by simp) W h1 h2
  have hsum0 := fun W => sum_any (l := []) (A := none) (B := 0) (c := 0) (by simp) W (Nat.zero_le _) (sl_nil _ _)
  have hchk := fun W A B c h1 h2 => check_any (l := [97, 98, 99]) (A := A) (B := B) (c := c) (by simp) W h1 h2
  have hof := fun W A B c h1 h2 => of_any (kind := 97) (l := [98, 99]) (A := A) (B := B) (c := c) (by simp) W h1 h2
  have hlA := sha_len [97, 98, 99]
  have hlB := sha_len []
  have hless := fun W => less_any hlA hlB W
  have hmore := fun W => less_any hlB hlA W
  rw [abc_lt] at hless
  rw [abc_gt] at hmore
  rw [abc_kind] at hof
  rw [abc_first] at hchk
  obtain ⟨LA, hLA⟩ : ∃ l, sha [97, 98, 99] = l := ⟨_, rfl⟩
  have e0 : LA[0]? = some 186 := by rw [← hLA, sha_abc]; rfl
  have e1 : LA[1]? = some 120 := by rw [← hLA, sha_abc]; rfl
  have e2 : LA[2]? = some 22 := by rw [← hLA, sha_abc]; rfl
  have e3 : LA[3]? = some 191 := by rw [← hLA, sha_abc]; rfl
  have e31 : LA[31]? = some 173 := by rw [← hLA, sha_abc]; rfl
  obtain ⟨LB, hLB⟩ : ∃ l, sha [] = l := ⟨_, rfl⟩
  have f0 : LB[0]? = some 227 := by rw [← hLB, sha_none]; rfl
  have f1 : LB[1]? = some 176 := by rw [← hLB, sha_none]; rfl
  have f31 : LB[31]? = some 85 := by rw [← hLB, sha_none]; rfl
  rw [hLA] at hsum hlA hof hless hmore
  rw [hLB] at hsum0 hlB hless hmore
  have h4l : F4.length = 4 := rfl
  obtain ⟨F, hF⟩ : ∃ l, F4 = l := ⟨_, rfl⟩
  rw [hF] at hchk h4l
  have hb3 : bvs [97, 98, 99] = [.int .u8 97, .int .u8 98, .int .u8 99] := rfl
  have hb2 : bvs [98, 99] = [.int .u8 98, .int .u8 99] := rfl
  rw [hb3] at hsum hchk
  rw [hb2] at hof
  change ∀ W A B c, B ≤ W.heap.size → Sl W B 1 A 3 _ → Calls _ _ #[.slice A 3 c] _ _ at hsum
  change ∀ W A B c, B ≤ W.heap.size → Sl W B 1 A 3 _ → Calls _ _ #[.slice A 3 c] _ _ at hchk
  change ∀ W A B c, B ≤ W.heap.size → Sl W B 1 A 2 _ → Calls _ _ #[_, .slice A 2 c] _ _ at hof
  change ∀ W, Calls _ _ #[.slice none 0 0] _ _ at hsum0
  clear hLA hLB hb3 hb2
  have hcv := conv_new
  go_enter Try.func15, Try.ntmps15
  obtain ⟨z32, hz⟩ : ∃ z, zs 32 = z := ⟨_, rfl⟩
  have hzl : z32.length = 32 := by rw [← hz]; rfl
  have hzZ := d32Z
  rw [hz] at hzZ
  clear hz
  obtain ⟨y4, hy⟩ : ∃ z, zs 4 = z := ⟨_, rfl⟩
  have hyl : y4.length = 4 := by rw [← hy]; rfl
  have hyZ := d4Z
  rw [hy] at hyZ
  clear hy
  go_wp2_with fail
  refine (hsum _ _ _ _ (Nat.le_refl _) (Sl.new (n := 3) (heap_alloc_new _ _) rfl)).mono ?_
  rintro e w1 ⟨rfl, hb1⟩
  go_wp2_with fail
  refine (hsum0 _).mono ?_
  rintro e w2 ⟨rfl, hb2⟩
  have hh1 : ((w2.alloc (.cells (bvs z32).toArray 24)).alloc (.cells (bvs z32).toArray 24)).heap[w2.heap.size]? = some (.cells (bvs z32).toArray 24) := heap_alloc_fst _ _ _
  have hh2 : (((w2.alloc (.cells (bvs z32).toArray 24)).alloc (.cells (bvs z32).toArray 24)).setRow w2.heap.size (bvs LA).toArray).heap[w2.heap.size + 1]? = some (.cells (bvs z32).toArray 24) := (setRow_other _ w2.heap.size (w2.heap.size + 1) _ (by omega)).trans (heap_alloc_two w2 _ _)
  go_simp
  rename_i HK
  apply HK
  refine wpList_new rfl hzZ rfl ?_
  refine wpList_new rfl hzZ rfl ?_
  rw [show (w2.alloc (.cells (bvs z32).toArray 24)).heap.size = w2.heap.size + 1 from World.size_alloc _ _]
  (try simp only [Act.put, List.setIfInBounds_toArray, List.set_cons_zero, List.set_cons_succ])
  refine wpList_store_row rfl 24 (.tmp 1) (.tmp 6) rfl _ (bvs LA).toArray rfl rfl _ (bvs z32).toArray (by exact hh1) (d32_info hlA) (by rw [List.size_toArray, List.size_toArray, bvs_len, bvs_len, hzl, hlA]) (all_oneCell_toArray (oneCell_bvs _)) ?_
  refine wpList_store_row rfl 24 (.tmp 2) (.tmp 7) rfl _ (bvs LB).toArray rfl rfl _ (bvs z32).toArray (by exact hh2) (d32_info hlB) (by rw [List.size_toArray, List.size_toArray, bvs_len, bvs_len, hzl, hlB]) (all_oneCell_toArray (oneCell_bvs _)) ?_
  go_upto_region 2 with (fail)
  generalize hX : World.setRow (World.setRow (World.alloc (World.alloc w2 _) _) _ _) _ _ = X
  have a2 : X.heap[w2.heap.size + 1]? = some (.cells (bvs LB).toArray 24) := by rw [← hX]; exact setRow_heap _ _ _ _ _ _ hh2
  have a1 : X.heap[w2.heap.size]? = some (.cells (bvs LA).toArray 24) := by rw [← hX]; exact (setRow_other _ (w2.heap.size + 1) w2.heap.size _ (by omega)).trans (setRow_heap _ _ _ _ _ _ hh1)
  clear hh1 hh2
  have hbX : Below w2.heap.size w2 X := by rw [← hX]; exact bSetRow (bSetRow (((Below.refl _ w2).alloc (Nat.le_refl _) _).alloc (by rw [World.size_alloc]; omega) _) (Nat.le_refl _) _) (Nat.le_succ _) _
  have hBX : Below w.heap.size w X := (((Below.refl _ w).alloc (Nat.le_refl _) _).trans (hb1.mono (by simp))).trans ((hb2.mono (by have := hb1.size; simp at this; omega)).trans (hbX.mono (by have := hb1.size; have := hb2.size; simp at *; omega)))
  have hzX : w2.heap.size + 1 < X.heap.size := (Array.getElem?_eq_some_iff.1 a2).1
  have hzw := hBX.size
  clear hX hbX hb1 hb2 hsum hsum0
  obtain ⟨g2, hg2⟩ : ∃ g, w2.heap.size + 1 = g := ⟨_, rfl⟩
  obtain ⟨g1, hg1⟩ : ∃ g, w2.heap.size = g := ⟨_, rfl⟩
  rw [hg2] at a2 hzX ⊢
  rw [hg1] at a1 ⊢
  have hg12 : g1 < g2 := by omega
  clear hg1 hg2
  go_wp2_with fail
  refine (hchk _ _ _ _ (Nat.le_refl _) (Sl.new (n := 3) (heap_alloc_new _ _) rfl)).mono ?_
  rintro e w3 ⟨rfl, hb3⟩
  go_upto_region 3 with (first
    | (refine wpList_new rfl hyZ rfl ?_)
    | (refine wpList_store_row rfl 27 (.tmp 3) (.tmp 10) rfl _ (bvs F).toArray rfl rfl _ (bvs y4).toArray (heap_alloc_new _ _) (d4_info h4l) (by rw [List.size_toArray, List.size_toArray, bvs_len, bvs_len, hyl, h4l]) (all_oneCell_toArray (oneCell_bvs _)) ?_)
    | fail)
  generalize hY : World.setRow _ _ _ = Y
  have a3 : Y.heap[w3.heap.size]? = some (.cells (bvs F).toArray 27) := by rw [← hY]; exact setRow_heap _ _ _ _ _ _ (heap_alloc_new _ _)
  have hbY : Below X.heap.size X Y := by rw [← hY]; exact (((Below.refl _ X).alloc (Nat.le_refl _) _).trans (hb3.mono (by simp))).trans ((bSetRow ((Below.refl _ w3).alloc (Nat.le_refl _) _) (Nat.le_refl _) _).mono (by have := hb3.size; simp at this; omega))
  have hz3 : w3.heap.size < Y.heap.size := (Array.getElem?_eq_some_iff.1 a3).1
  replace a1 := bBlk hbY (by omega) a1
  replace a2 := bBlk hbY hzX a2
  have hBY := hBX.trans (hbY.mono hzw)
  have hzY : g2 < Y.heap.size := by have := hbY.size; omega
  have hzYw := hBY.size
  clear hY hbY hb3 hchk hBX hzX hzw
  obtain ⟨g3, hg3⟩ : ∃ g, w3.heap.size = g := ⟨_, rfl⟩
  rw [hg3] at a3 hz3 ⊢
  clear hg3
  have sa := dg_same hlA
  have s4 : ∀ W, (Op.equalIn 10000 27 (.agg (bvs F4).toArray) (.agg #[.int .u8 186, .int .u8 120, .int .u8 22, .int .u8 191])).run Try.prog W = .ok true W := fun W => d4_same (x := F4) rfl W
  subst hF
  let S : World → Prop := fun w' => w'.cell? ⟨g1, 0, none⟩ = some (.int .u8 186) ∧ w'.cell? ⟨g1, 1, none⟩ = some (.int .u8 120) ∧ w'.cell? ⟨g1, 2, none⟩ = some (.int .u8 22) ∧ w'.cell? ⟨g1, 3, none⟩ = some (.int .u8 191) ∧ w'.cell? ⟨g1, 31, none⟩ = some (.int .u8 173) ∧ w'.cell? ⟨g2, 0, none⟩ = some (.int .u8 227) ∧ w'.cell? ⟨g2, 1, none⟩ = some (.int .u8 176) ∧ w'.cell? ⟨g2, 31, none⟩ = some (.int .u8 85) ∧ w'.rangeAt g1 0 (bvs LA) ∧ w'.rangeAt g2 0 (bvs LB) ∧ w'.rangeAt g3 0 (bvs F4)
  have hS0 : S Y := ⟨blk_cell a1 (bvs_at' e0), blk_cell a1 (bvs_at' e1), blk_cell a1 (bvs_at' e2), blk_cell a1 (bvs_at' e3), blk_cell a1 (bvs_at' e31), blk_cell a2 (bvs_at' f0), blk_cell a2 (bvs_at' f1), blk_cell a2 (bvs_at' f31), cells_range a1, cells_range a2, cells_range a3⟩
  have hSS : ∀ w', Below Y.heap.size Y w' → S w' := fun w' hb => ⟨blk_cell (bBlk hb (by omega) a1) (bvs_at' e0), blk_cell (bBlk hb (by omega) a1) (bvs_at' e1), blk_cell (bBlk hb (by omega) a1) (bvs_at' e2), blk_cell (bBlk hb (by omega) a1) (bvs_at' e3), blk_cell (bBlk hb (by omega) a1) (bvs_at' e31), blk_cell (bBlk hb (by omega) a2) (bvs_at' f0), blk_cell (bBlk hb (by omega) a2) (bvs_at' f1), blk_cell (bBlk hb (by omega) a2) (bvs_at' f31), cells_range (bBlk hb (by omega) a1), cells_range (bBlk hb (by omega) a2), cells_range (bBlk hb hz3 a3)⟩
  have hS1 : S Y.drew := hSS _ ((Below.refl _ _).drew)
  clear hS0 e0 e1 e2 e3 e31 f0 f1 f31 a1 a2 a3
  refine wp_region_held (S := S) (by kernel_rfl) ?_
  change wpAnyH _ _ _ _ S _ _ _ Y.drew
  refine wpAnyH_take (i := 0) (oi := ?oi_1) (v := ?v_1) ?ho_1 ?h1_1 ?h2_1 ?h3_1 ?hq_1 (Or.inl ⟨?hw_1, ?hy_1⟩) ?hs_1 ?rest_1; (case h2_1 => kernel_rfl); (case h3_1 => kernel_rfl); (case ho_1 => (simp only [List.getElem?_toArray, List.getElem?_cons_zero, List.getElem?_cons_succ]; rfl)); (case h1_1 => kernel_rfl); (case hq_1 => exact fun _ _ _ h => h); (case hw_1 => rfl); (case hy_1 => (intro w' hSw; (try simp only [S] at hSw); go_simp; (try with_reducible rfl))); (case hs_1 => assumption); (try simp only [Act.put, List.setIfInBounds_toArray, List.set_cons_zero, List.set_cons_succ])
  refine wpAnyH_take (i := 1) (oi := ?oi_2) (v := ?v_2) ?ho_2 ?h1_2 ?h2_2 ?h3_2 ?hq_2 (Or.inl ⟨?hw_2, ?hy_2⟩) ?hs_2 ?rest_2; (case h2_2 => kernel_rfl); (case h3_2 => kernel_rfl); (case ho_2 => (simp only [List.getElem?_toArray, List.getElem?_cons_zero, List.getElem?_cons_succ]; rfl)); (case h1_2 => kernel_rfl); (case hq_2 => exact fun _ _ _ h => h); (case hw_2 => rfl); (case hy_2 => (intro w' hSw; (try simp only [S] at hSw); go_simp; (try with_reducible rfl))); (case hs_2 => assumption); (try simp only [Act.put, List.setIfInBounds_toArray, List.set_cons_zero, List.set_cons_succ])
  refine wpAnyH_take (i := 2) (oi := ?oi_3) (v := ?v_3) ?ho_3 ?h1_3 ?h2_3 ?h3_3 ?hq_3 (Or.inl ⟨?hw_3, ?hy_3⟩) ?hs_3 ?rest_3; (case h2_3 => kernel_rfl); (case h3_3 => kernel_rfl); (case ho_3 => (simp only [List.getElem?_toArray, List.getElem?_cons_zero, List.getElem?_cons_succ]; rfl)); (case h1_3 => kernel_rfl); (case hq_3 => exact fun _ _ _ h => h); (case hw_3 => rfl); (case hy_3 => (intro w' hSw; (try simp only [S] at hSw); go_simp; (try with_reducible rfl))); (case hs_3 => assumption); (try simp only [Act.put, List.setIfInBounds_toArray, List.set_cons_zero, List.set_cons_succ])
  refine wpAnyH_take (i := 3) (oi := ?oi_4) (v := ?v_4) ?ho_4 ?h1_4 ?h2_4 ?h3_4 ?hq_4 (Or.inl ⟨?hw_4, ?hy_4⟩) ?hs_4 ?rest_4; (case h2_4 => kernel_rfl); (case h3_4 => kernel_rfl); (case ho_4 => (simp only [List.getElem?_toArray, List.getElem?_cons_zero, List.getElem?_cons_succ]; rfl)); (case h1_4 => kernel_rfl); (case hq_4 => exact fun _ _ _ h => h); (case hw_4 => rfl); (case hy_4 => (intro w' hSw; (try simp only [S] at hSw); go_simp; (try with_reducible rfl))); (case hs_4 => assumption); (try simp only [Act.put, List.setIfInBounds_toArray, List.set_cons_zero, List.set_cons_succ])
  refine wpAnyH_take (i := 4) (oi := ?oi_5) (v := ?v_5) ?ho_5 ?h1_5 ?h2_5 ?h3_5 ?hq_5 (Or.inl ⟨?hw_5, ?hy_5⟩) ?hs_5 ?rest_5; (case h2_5 => kernel_rfl); (case h3_5 => kernel_rfl); (case ho_5 => (simp only [List.getElem?_toArray, List.getElem?_cons_zero, List.getElem?_cons_succ]; rfl)); (case h1_5 => kernel_rfl); (case hq_5 => exact fun _ _ _ h => h); (case hw_5 => rfl); (case hy_5 => (intro w' hSw; (try simp only [S] at hSw); go_simp; (try with_reducible rfl))); (case hs_5 => assumption); (try simp only [Act.put, List.setIfInBounds_toArray, List.set_cons_zero, List.set_cons_succ])
  refine wpAnyH_take (i := 5) (oi := ?oi_6) (v := ?v_6) ?ho_6 ?h1_6 ?h2_6 ?h3_6 ?hq_6 (Or.inl ⟨?hw_6, ?hy_6⟩) ?hs_6 ?rest_6; (case h2_6 => kernel_rfl); (case h3_6 => kernel_rfl); (case ho_6 => (simp only [List.getElem?_toArray, List.getElem?_cons_zero, List.getElem?_cons_succ]; rfl)); (case h1_6 => kernel_rfl); (case hq_6 => exact fun _ _ _ h => h); (case hw_6 => rfl); (case hy_6 => (intro w' hSw; (try simp only [S] at hSw); go_simp; (try with_reducible rfl))); (case hs_6 => assumption); (try simp only [Act.put, List.setIfInBounds_toArray, List.set_cons_zero, List.set_cons_succ])
  refine wpAnyH_take (i := 6) (oi := ?oi_7) (v := ?v_7) ?ho_7 ?h1_7 ?h2_7 ?h3_7 ?hq_7 (Or.inl ⟨?hw_7, ?hy_7⟩) ?hs_7 ?rest_7; (case h2_7 => kernel_rfl); (case h3_7 => kernel_rfl); (case ho_7 => (simp only [List.getElem?_toArray, List.getElem?_cons_zero, List.getElem?_cons_succ]; rfl)); (case h1_7 => kernel_rfl); (case hq_7 => exact fun _ _ _ h => h); (case hw_7 => rfl); (case hy_7 => (intro w' hSw; (try simp only [S] at hSw); go_simp; (try with_reducible rfl))); (case hs_7 => assumption); (try simp only [Act.put, List.setIfInBounds_toArray, List.set_cons_zero, List.set_cons_succ])
  refine wpAnyH_take (i := 7) (oi := ?oi_8) (v := ?v_8) ?ho_8 ?h1_8 ?h2_8 ?h3_8 ?hq_8 (Or.inl ⟨?hw_8, ?hy_8⟩) ?hs_8 ?rest_8; (case h2_8 => kernel_rfl); (case h3_8 => kernel_rfl); (case ho_8 => (simp only [List.getElem?_toArray, List.getElem?_cons_zero, List.getElem?_cons_succ]; rfl)); (case h1_8 => kernel_rfl); (case hq_8 => exact fun _ _ _ h => h); (case hw_8 => rfl); (case hy_8 => (intro w' hSw; (try simp only [S] at hSw); go_simp; (try with_reducible rfl))); (case hs_8 => assumption); (try simp only [Act.put, List.setIfInBounds_toArray, List.set_cons_zero, List.set_cons_succ])
  refine wpAnyH_take (i := 8) (oi := ?oi_9) (v := ?v_9) ?ho_9 ?h1_9 ?h2_9 ?h3_9 ?hq_9 (Or.inl ⟨?hw_9, ?hy_9⟩) ?hs_9 ?rest_9; (case h2_9 => kernel_rfl); (case h3_9 => kernel_rfl); (case ho_9 => (simp only [List.getElem?_toArray, List.getElem?_cons_zero, List.getElem?_cons_succ]; rfl)); (case h1_9 => kernel_rfl); (case hq_9 => exact fun _ _ _ h => h); (case hw_9 => rfl); (case hy_9 => (intro w' hSw; (try simp only [S] at hSw); go_simp; (try with_reducible rfl))); (case hs_9 => assumption); (try simp only [Act.put, List.setIfInBounds_toArray, List.set_cons_zero, List.set_cons_succ])
  refine wpAnyH_take (i := 9) (oi := ?oi_10) (v := ?v_10) ?ho_10 ?h1_10 ?h2_10 ?h3_10 ?hq_10 (Or.inl ⟨?hw_10, ?hy_10⟩) ?hs_10 ?rest_10; (case h2_10 => kernel_rfl); (case h3_10 => kernel_rfl); (case ho_10 => (simp only [List.getElem?_toArray, List.getElem?_cons_zero, List.getElem?_cons_succ]; rfl)); (case h1_10 => kernel_rfl); (case hq_10 => exact fun _ _ _ h => h); (case hw_10 => rfl); (case hy_10 => (intro w' hSw; (try simp only [S] at hSw); go_simp; (try with_reducible rfl))); (case hs_10 => assumption); (try simp only [Act.put, List.setIfInBounds_toArray, List.set_cons_zero, List.set_cons_succ])
  refine wpAnyH_take (i := 10) (oi := ?oi_11) (v := ?v_11) ?ho_11 ?h1_11 ?h2_11 ?h3_11 ?hq_11 (Or.inl ⟨?hw_11, ?hy_11⟩) ?hs_11 ?rest_11; (case h2_11 => kernel_rfl); (case h3_11 => kernel_rfl); (case ho_11 => (simp only [List.getElem?_toArray, List.getElem?_cons_zero, List.getElem?_cons_succ]; rfl)); (case h1_11 => kernel_rfl); (case hq_11 => exact fun _ _ _ h => h); (case hw_11 => rfl); (case hy_11 => (intro w' hSw; (try simp only [S] at hSw); go_simp; (try with_reducible rfl))); (case hs_11 => assumption); (try simp only [Act.put, List.setIfInBounds_toArray, List.set_cons_zero, List.set_cons_succ])
  refine wpAnyH_take (i := 11) (oi := ?oi_12) (v := ?v_12) ?ho_12 ?h1_12 ?h2_12 ?h3_12 ?hq_12 (Or.inl ⟨?hw_12, ?hy_12⟩) ?hs_12 ?rest_12; (case h2_12 => kernel_rfl); (case h3_12 => kernel_rfl); (case ho_12 => (simp only [List.getElem?_toArray, List.getElem?_cons_zero, List.getElem?_cons_succ]; rfl)); (case h1_12 => kernel_rfl); (case hq_12 => exact fun _ _ _ h => h); (case hw_12 => rfl); (case hy_12 => (intro w' hSw; (try simp only [S] at hSw); go_simp; (try with_reducible rfl))); (case hs_12 => assumption); (try simp only [Act.put, List.setIfInBounds_toArray, List.set_cons_zero, List.set_cons_succ])
  refine wpAnyH_take (i := 12) (oi := ?oi_13) (v := ?v_13) ?ho_13 ?h1_13 ?h2_13 ?h3_13 ?hq_13 (Or.inl ⟨?hw_13, ?hy_13⟩) ?hs_13 ?rest_13; (case h2_13 => kernel_rfl); (case h3_13 => kernel_rfl); (case ho_13 => (simp only [List.getElem?_toArray, List.getElem?_cons_zero, List.getElem?_cons_succ]; rfl)); (case h1_13 => kernel_rfl); (case hq_13 => exact fun _ _ _ h => h); (case hw_13 => rfl); (case hy_13 => (intro w' hSw; (try simp only [S] at hSw); go_simp; (try with_reducible rfl))); (case hs_13 => assumption); (try simp only [Act.put, List.setIfInBounds_toArray, List.set_cons_zero, List.set_cons_succ])
  refine wpAnyH_take (i := 13) (oi := ?oi_14) (v := ?v_14) ?ho_14 ?h1_14 ?h2_14 ?h3_14 ?hq_14 (Or.inl ⟨?hw_14, ?hy_14⟩) ?hs_14 ?rest_14; (case h2_14 => kernel_rfl); (case h3_14 => kernel_rfl); (case ho_14 => (simp only [List.getElem?_toArray, List.getElem?_cons_zero, List.getElem?_cons_succ]; rfl)); (case h1_14 => kernel_rfl); (case hq_14 => exact fun _ _ _ h => h); (case hw_14 => rfl); (case hy_14 => (intro w' hSw; (try simp only [S] at hSw); go_simp; (try with_reducible rfl))); (case hs_14 => assumption); (try simp only [Act.put, List.setIfInBounds_toArray, List.set_cons_zero, List.set_cons_succ])
  refine wpAnyH_take (i := 14) (oi := ?oi_15) (v := ?v_15) ?ho_15 ?h1_15 ?h2_15 ?h3_15 ?hq_15 (Or.inl ⟨?hw_15, ?hy_15⟩) ?hs_15 ?rest_15; (case h2_15 => kernel_rfl); (case h3_15 => kernel_rfl); (case ho_15 => (simp only [List.getElem?_toArray, List.getElem?_cons_zero, List.getElem?_cons_succ]; rfl)); (case h1_15 => kernel_rfl); (case hq_15 => exact fun _ _ _ h => h); (case hw_15 => rfl); (case hy_15 => (intro w' hSw; (try simp only [S] at hSw); go_simp; (try with_reducible rfl))); (case hs_15 => assumption); (try simp only [Act.put, List.setIfInBounds_toArray, List.set_cons_zero, List.set_cons_succ])
  refine wpAnyH_take (i := 15) (oi := ?oi_16) (v := ?v_16) ?ho_16 ?h1_16 ?h2_16 ?h3_16 ?hq_16 (Or.inl ⟨?hw_16, ?hy_16⟩) ?hs_16 ?rest_16; (case h2_16 => kernel_rfl); (case h3_16 => kernel_rfl); (case ho_16 => (simp only [List.getElem?_toArray, List.getElem?_cons_zero, List.getElem?_cons_succ]; rfl)); (case h1_16 => kernel_rfl); (case hq_16 => exact fun _ _ _ h => h); (case hw_16 => rfl); (case hy_16 => (intro w' hSw; (try simp only [S] at hSw); go_simp; (try with_reducible rfl))); (case hs_16 => assumption); (try simp only [Act.put, List.setIfInBounds_toArray, List.set_cons_zero, List.set_cons_succ])
  refine wpAnyH_take (i := 16) (oi := ?oi_17) (v := ?v_17) ?ho_17 ?h1_17 ?h2_17 ?h3_17 ?hq_17 (Or.inl ⟨?hw_17, ?hy_17⟩) ?hs_17 ?rest_17; (case h2_17 => kernel_rfl); (case h3_17 => kernel_rfl); (case ho_17 => (simp only [List.getElem?_toArray, List.getElem?_cons_zero, List.getElem?_cons_succ]; rfl)); (case h1_17 => kernel_rfl); (case hq_17 => exact fun _ _ _ h => h); (case hw_17 => rfl); (case hy_17 => (intro w' hSw; (try simp only [S] at hSw); go_simp; (try with_reducible rfl))); (case hs_17 => assumption); (try simp only [Act.put, List.setIfInBounds_toArray, List.set_cons_zero, List.set_cons_succ])
  refine wpAnyH_take (i := 17) (oi := ?oi_18) (v := ?v_18) ?ho_18 ?h1_18 ?h2_18 ?h3_18 ?hq_18 (Or.inl ⟨?hw_18, ?hy_18⟩) ?hs_18 ?rest_18; (case h2_18 => kernel_rfl); (case h3_18 => kernel_rfl); (case ho_18 => (simp only [List.getElem?_toArray, List.getElem?_cons_zero, List.getElem?_cons_succ]; rfl)); (case h1_18 => kernel_rfl); (case hq_18 => exact fun _ _ _ h => h); (case hw_18 => rfl); (case hy_18 => (intro w' hSw; (try simp only [S] at hSw); go_simp; (try with_reducible rfl))); (case hs_18 => assumption); (try simp only [Act.put, List.setIfInBounds_toArray, List.set_cons_zero, List.set_cons_succ])
  refine wpAnyH_take (i := 18) (oi := ?oi_19) (v := ?v_19) ?ho_19 ?h1_19 ?h2_19 ?h3_19 ?hq_19 (Or.inl ⟨?hw_19, ?hy_19⟩) ?hs_19 ?rest_19; (case h2_19 => kernel_rfl); (case h3_19 => kernel_rfl); (case ho_19 => (simp only [List.getElem?_toArray, List.getElem?_cons_zero, List.getElem?_cons_succ]; rfl)); (case h1_19 => kernel_rfl); (case hq_19 => exact fun _ _ _ h => h); (case hw_19 => rfl); (case hy_19 => (intro w' hSw; (try simp only [S] at hSw); go_simp; (try with_reducible rfl))); (case hs_19 => assumption); (try simp only [Act.put, List.setIfInBounds_toArray, List.set_cons_zero, List.set_cons_succ])
  refine wpAnyH_take (i := 19) (oi := ?oi_20) (v := ?v_20) ?ho_20 ?h1_20 ?h2_20 ?h3_20 ?hq_20 (Or.inl ⟨?hw_20, ?hy_20⟩) ?hs_20 ?rest_20; (case h2_20 => kernel_rfl); (case h3_20 => kernel_rfl); (case ho_20 => (simp only [List.getElem?_toArray, List.getElem?_cons_zero, List.getElem?_cons_succ]; rfl)); (case h1_20 => kernel_rfl); (case hq_20 => exact fun _ _ _ h => h); (case hw_20 => rfl); (case hy_20 => (intro w' hSw; (try simp only [S] at hSw); go_simp; (try with_reducible rfl))); (case hs_20 => assumption); (try simp only [Act.put, List.setIfInBounds_toArray, List.set_cons_zero, List.set_cons_succ])
  refine wpAnyH_take (i := 20) (oi := ?oi_21) (v := ?v_21) ?ho_21 ?h1_21 ?h2_21 ?h3_21 ?hq_21 (Or.inl ⟨?hw_21, ?hy_21⟩) ?hs_21 ?rest_21; (case h2_21 => kernel_rfl); (case h3_21 => kernel_rfl); (case ho_21 => (simp only [List.getElem?_toArray, List.getElem?_cons_zero, List.getElem?_cons_succ]; rfl)); (case h1_21 => kernel_rfl); (case hq_21 => exact fun _ _ _ h => h); (case hw_21 => rfl); (case hy_21 => (intro w' hSw; (try simp only [S] at hSw); go_simp; (try with_reducible rfl))); (case hs_21 => assumption); (try simp only [Act.put, List.setIfInBounds_toArray, List.set_cons_zero, List.set_cons_succ])
  refine wpAnyH_take (i := 21) (oi := ?oi_22) (v := ?v_22) ?ho_22 ?h1_22 ?h2_22 ?h3_22 ?hq_22 (Or.inl ⟨?hw_22, ?hy_22⟩) ?hs_22 ?rest_22; (case h2_22 => kernel_rfl); (case h3_22 => kernel_rfl); (case ho_22 => (simp only [List.getElem?_toArray, List.getElem?_cons_zero, List.getElem?_cons_succ]; rfl)); (case h1_22 => kernel_rfl); (case hq_22 => exact fun _ _ _ h => h); (case hw_22 => rfl); (case hy_22 => (intro w' hSw; (try simp only [S] at hSw); go_simp; (try with_reducible rfl))); (case hs_22 => assumption); (try simp only [Act.put, List.setIfInBounds_toArray, List.set_cons_zero, List.set_cons_succ])
  refine wpAnyH_take (i := 22) (oi := ?oi_23) (v := ?v_23) ?ho_23 ?h1_23 ?h2_23 ?h3_23 ?hq_23 (Or.inl ⟨?hw_23, ?hy_23⟩) ?hs_23 ?rest_23; (case h2_23 => kernel_rfl); (case h3_23 => kernel_rfl); (case ho_23 => (simp only [List.getElem?_toArray, List.getElem?_cons_zero, List.getElem?_cons_succ]; rfl)); (case h1_23 => kernel_rfl); (case hq_23 => exact fun _ _ _ h => h); (case hw_23 => rfl); (case hy_23 => (intro w' hSw; (try simp only [S] at hSw); go_simp; (try with_reducible rfl))); (case hs_23 => assumption); (try simp only [Act.put, List.setIfInBounds_toArray, List.set_cons_zero, List.set_cons_succ])
  refine wpAnyH_take (i := 23) (oi := ?oi_24) (v := ?v_24) ?ho_24 ?h1_24 ?h2_24 ?h3_24 ?hq_24 (Or.inl ⟨?hw_24, ?hy_24⟩) ?hs_24 ?rest_24; (case h2_24 => kernel_rfl); (case h3_24 => kernel_rfl); (case ho_24 => (simp only [List.getElem?_toArray, List.getElem?_cons_zero, List.getElem?_cons_succ]; rfl)); (case h1_24 => kernel_rfl); (case hq_24 => exact fun _ _ _ h => h); (case hw_24 => rfl); (case hy_24 => (intro w' hSw; (try simp only [S] at hSw); go_simp; (try with_reducible rfl))); (case hs_24 => assumption); (try simp only [Act.put, List.setIfInBounds_toArray, List.set_cons_zero, List.set_cons_succ])
  refine wpAnyH_take (i := 24) (oi := ?oi_25) (v := ?v_25) ?ho_25 ?h1_25 ?h2_25 ?h3_25 ?hq_25 (Or.inl ⟨?hw_25, ?hy_25⟩) ?hs_25 ?rest_25; (case h2_25 => kernel_rfl); (case h3_25 => kernel_rfl); (case ho_25 => (simp only [List.getElem?_toArray, List.getElem?_cons_zero, List.getElem?_cons_succ]; rfl)); (case h1_25 => kernel_rfl); (case hq_25 => exact fun _ _ _ h => h); (case hw_25 => rfl); (case hy_25 => (intro w' hSw; (try simp only [S] at hSw); go_simp; (try with_reducible rfl))); (case hs_25 => assumption); (try simp only [Act.put, List.setIfInBounds_toArray, List.set_cons_zero, List.set_cons_succ])
  refine wpAnyH_take (i := 25) (oi := ?oi_26) (v := ?v_26) ?ho_26 ?h1_26 ?h2_26 ?h3_26 ?hq_26 (Or.inl ⟨?hw_26, ?hy_26⟩) ?hs_26 ?rest_26; (case h2_26 => kernel_rfl); (case h3_26 => kernel_rfl); (case ho_26 => (simp only [List.getElem?_toArray, List.getElem?_cons_zero, List.getElem?_cons_succ]; rfl)); (case h1_26 => kernel_rfl); (case hq_26 => exact fun _ _ _ h => h); (case hw_26 => rfl); (case hy_26 => (intro w' hSw; (try simp only [S] at hSw); go_simp; (try with_reducible rfl))); (case hs_26 => assumption); (try simp only [Act.put, List.setIfInBounds_toArray, List.set_cons_zero, List.set_cons_succ])
  refine wpAnyH_take (i := 26) (oi := ?oi_27) (v := ?v_27) ?ho_27 ?h1_27 ?h2_27 ?h3_27 ?hq_27 (Or.inl ⟨?hw_27, ?hy_27⟩) ?hs_27 ?rest_27; (case h2_27 => kernel_rfl); (case h3_27 => kernel_rfl); (case ho_27 => (simp only [List.getElem?_toArray, List.getElem?_cons_zero, List.getElem?_cons_succ]; rfl)); (case h1_27 => kernel_rfl); (case hq_27 => exact fun _ _ _ h => h); (case hw_27 => rfl); (case hy_27 => (intro w' hSw; (try simp only [S] at hSw); go_simp; (try with_reducible rfl))); (case hs_27 => assumption); (try simp only [Act.put, List.setIfInBounds_toArray, List.set_cons_zero, List.set_cons_succ])
  refine wpAnyH_take (i := 27) (oi := ?oi_28) (v := ?v_28) ?ho_28 ?h1_28 ?h2_28 ?h3_28 ?hq_28 (Or.inl ⟨?hw_28, ?hy_28⟩) ?hs_28 ?rest_28; (case h2_28 => kernel_rfl); (case h3_28 => kernel_rfl); (case ho_28 => (simp only [List.getElem?_toArray, List.getElem?_cons_zero, List.getElem?_cons_succ]; rfl)); (case h1_28 => kernel_rfl); (case hq_28 => exact fun _ _ _ h => h); (case hw_28 => rfl); (case hy_28 => (intro w' hSw; (try simp only [S] at hSw); go_simp; (try with_reducible rfl))); (case hs_28 => assumption); (try simp only [Act.put, List.setIfInBounds_toArray, List.set_cons_zero, List.set_cons_succ])
  refine wpAnyH_take (i := 28) (oi := ?oi_29) (v := ?v_29) ?ho_29 ?h1_29 ?h2_29 ?h3_29 ?hq_29 (Or.inl ⟨?hw_29, ?hy_29⟩) ?hs_29 ?rest_29; (case h2_29 => kernel_rfl); (case h3_29 => kernel_rfl); (case ho_29 => (simp only [List.getElem?_toArray, List.getElem?_cons_zero, List.getElem?_cons_succ]; rfl)); (case h1_29 => kernel_rfl); (case hq_29 => exact fun _ _ _ h => h); (case hw_29 => rfl); (case hy_29 => (intro w' hSw; (try simp only [S] at hSw); go_simp; (try with_reducible rfl))); (case hs_29 => assumption); (try simp only [Act.put, List.setIfInBounds_toArray, List.set_cons_zero, List.set_cons_succ])
  refine wpAnyH_take (i := 29) (oi := ?oi_30) (v := ?v_30) ?ho_30 ?h1_30 ?h2_30 ?h3_30 ?hq_30 (Or.inl ⟨?hw_30, ?hy_30⟩) ?hs_30 ?rest_30; (case h2_30 => kernel_rfl); (case h3_30 => kernel_rfl); (case ho_30 => (simp only [List.getElem?_toArray, List.getElem?_cons_zero, List.getElem?_cons_succ]; rfl)); (case h1_30 => kernel_rfl); (case hq_30 => exact fun _ _ _ h => h); (case hw_30 => rfl); (case hy_30 => (intro w' hSw; (try simp only [S] at hSw); go_simp; (try with_reducible rfl))); (case hs_30 => assumption); (try simp only [Act.put, List.setIfInBounds_toArray, List.set_cons_zero, List.set_cons_succ])
  refine wpAnyH_take (i := 30) (oi := ?oi_31) (v := ?v_31) ?ho_31 ?h1_31 ?h2_31 ?h3_31 ?hq_31 (Or.inl ⟨?hw_31, ?hy_31⟩) ?hs_31 ?rest_31; (case h2_31 => kernel_rfl); (case h3_31 => kernel_rfl); (case ho_31 => (simp only [List.getElem?_toArray, List.getElem?_cons_zero, List.getElem?_cons_succ]; rfl)); (case h1_31 => kernel_rfl); (case hq_31 => exact fun _ _ _ h => h); (case hw_31 => rfl); (case hy_31 => (intro w' hSw; (try simp only [S] at hSw); go_simp; (try with_reducible rfl))); (case hs_31 => assumption); (try simp only [Act.put, List.setIfInBounds_toArray, List.set_cons_zero, List.set_cons_succ])
  refine wpAnyH_take (i := 31) (oi := ?oi_32) (v := ?v_32) ?ho_32 ?h1_32 ?h2_32 ?h3_32 ?hq_32 (Or.inl ⟨?hw_32, ?hy_32⟩) ?hs_32 ?rest_32; (case h2_32 => kernel_rfl); (case h3_32 => kernel_rfl); (case ho_32 => (simp only [List.getElem?_toArray, List.getElem?_cons_zero, List.getElem?_cons_succ]; rfl)); (case h1_32 => kernel_rfl); (case hq_32 => exact fun _ _ _ h => h); (case hw_32 => rfl); (case hy_32 => (intro w' hSw; (try simp only [S] at hSw); go_simp; (try with_reducible rfl))); (case hs_32 => assumption); (try simp only [Act.put, List.setIfInBounds_toArray, List.set_cons_zero, List.set_cons_succ])
  refine wpAnyH_take (i := 32) (oi := ?oi_33) (v := ?v_33) ?ho_33 ?h1_33 ?h2_33 ?h3_33 ?hq_33 (Or.inl ⟨?hw_33, ?hy_33⟩) ?hs_33 ?rest_33; (case h2_33 => kernel_rfl); (case h3_33 => kernel_rfl); (case ho_33 => (simp only [List.getElem?_toArray, List.getElem?_cons_zero, List.getElem?_cons_succ]; rfl)); (case h1_33 => kernel_rfl); (case hq_33 => exact fun _ _ _ h => h); (case hw_33 => rfl); (case hy_33 => (intro w' hSw; (try simp only [S] at hSw); go_simp; (try with_reducible rfl))); (case hs_33 => assumption); (try simp only [Act.put, List.setIfInBounds_toArray, List.set_cons_zero, List.set_cons_succ])
  refine wpAnyH_take (i := 33) (oi := ?oi_34) (v := ?v_34) ?ho_34 ?h1_34 ?h2_34 ?h3_34 ?hq_34 (Or.inl ⟨?hw_34, ?hy_34⟩) ?hs_34 ?rest_34; (case h2_34 => kernel_rfl); (case h3_34 => kernel_rfl); (case ho_34 => (simp only [List.getElem?_toArray, List.getElem?_cons_zero, List.getElem?_cons_succ]; rfl)); (case h1_34 => kernel_rfl); (case hq_34 => exact fun _ _ _ h => h); (case hw_34 => rfl); (case hy_34 => (intro w' hSw; (try simp only [S] at hSw); go_simp; (try with_reducible rfl))); (case hs_34 => assumption); (try simp only [Act.put, List.setIfInBounds_toArray, List.set_cons_zero, List.set_cons_succ])
  refine wpAnyH_take (i := 34) (oi := ?oi_35) (v := ?v_35) ?ho_35 ?h1_35 ?h2_35 ?h3_35 ?hq_35 (Or.inl ⟨?hw_35, ?hy_35⟩) ?hs_35 ?rest_35; (case h2_35 => kernel_rfl); (case h3_35 => kernel_rfl); (case ho_35 => (simp only [List.getElem?_toArray, List.getElem?_cons_zero, List.getElem?_cons_succ]; rfl)); (case h1_35 => kernel_rfl); (case hq_35 => exact fun _ _ _ h => h); (case hw_35 => rfl); (case hy_35 => (intro w' hSw; (try simp only [S] at hSw); go_simp; (try with_reducible rfl))); (case hs_35 => assumption); (try simp only [Act.put, List.setIfInBounds_toArray, List.set_cons_zero, List.set_cons_succ])
  refine wpAnyH_take (i := 35) (oi := ?oi_36) (v := ?v_36) ?ho_36 ?h1_36 ?h2_36 ?h3_36 ?hq_36 (Or.inl ⟨?hw_36, ?hy_36⟩) ?hs_36 ?rest_36; (case h2_36 => kernel_rfl); (case h3_36 => kernel_rfl); (case ho_36 => (simp only [List.getElem?_toArray, List.getElem?_cons_zero, List.getElem?_cons_succ]; rfl)); (case h1_36 => kernel_rfl); (case hq_36 => exact fun _ _ _ h => h); (case hw_36 => rfl); (case hy_36 => (intro w' hSw; (try simp only [S] at hSw); go_simp; (try with_reducible rfl))); (case hs_36 => assumption); (try simp only [Act.put, List.setIfInBounds_toArray, List.set_cons_zero, List.set_cons_succ])
  refine wpAnyH_take (i := 36) (oi := ?oi_37) (v := ?v_37) ?ho_37 ?h1_37 ?h2_37 ?h3_37 ?hq_37 (Or.inl ⟨?hw_37, ?hy_37⟩) ?hs_37 ?rest_37; (case h2_37 => kernel_rfl); (case h3_37 => kernel_rfl); (case ho_37 => (simp only [List.getElem?_toArray, List.getElem?_cons_zero, List.getElem?_cons_succ]; rfl)); (case h1_37 => kernel_rfl); (case hq_37 => exact fun _ _ _ h => h); (case hw_37 => rfl); (case hy_37 => (intro w' hSw; (try simp only [S] at hSw); go_simp; (try with_reducible rfl))); (case hs_37 => assumption); (try simp only [Act.put, List.setIfInBounds_toArray, List.set_cons_zero, List.set_cons_succ])
  refine wpAnyH_take (i := 37) (oi := ?oi_38) (v := ?v_38) ?ho_38 ?h1_38 ?h2_38 ?h3_38 ?hq_38 (Or.inl ⟨?hw_38, ?hy_38⟩) ?hs_38 ?rest_38; (case h2_38 => kernel_rfl); (case h3_38 => kernel_rfl); (case ho_38 => (simp only [List.getElem?_toArray, List.getElem?_cons_zero, List.getElem?_cons_succ]; rfl)); (case h1_38 => kernel_rfl); (case hq_38 => exact fun _ _ _ h => h); (case hw_38 => rfl); (case hy_38 => (intro w' hSw; (try simp only [S] at hSw); go_simp; (try with_reducible rfl))); (case hs_38 => assumption); (try simp only [Act.put, List.setIfInBounds_toArray, List.set_cons_zero, List.set_cons_succ])
  refine wpAnyH_take (i := 38) (oi := ?oi_39) (v := ?v_39) ?ho_39 ?h1_39 ?h2_39 ?h3_39 ?hq_39 (Or.inl ⟨?hw_39, ?hy_39⟩) ?hs_39 ?rest_39; (case h2_39 => kernel_rfl); (case h3_39 => kernel_rfl); (case ho_39 => (simp only [List.getElem?_toArray, List.getElem?_cons_zero, List.getElem?_cons_succ]; rfl)); (case h1_39 => kernel_rfl); (case hq_39 => exact fun _ _ _ h => h); (case hw_39 => rfl); (case hy_39 => (intro w' hSw; (try simp only [S] at hSw); go_simp; (try with_reducible rfl))); (case hs_39 => assumption); (try simp only [Act.put, List.setIfInBounds_toArray, List.set_cons_zero, List.set_cons_succ])
  refine wpAnyH_take (i := 39) (oi := ?oi_52) (v := ?v_52) ?ho_52 ?h1_52 ?h2_52 ?h3_52 ?hq_52 (Or.inl ⟨?hw_52, ?hy_52⟩) ?hs_52 ?rest_52; (case h2_52 => kernel_rfl); (case h3_52 => kernel_rfl); (case ho_52 => (simp only [List.getElem?_toArray, List.getElem?_cons_zero, List.getElem?_cons_succ]; rfl)); (case h1_52 => kernel_rfl); (case hq_52 => exact fun _ _ _ h => h); (case hw_52 => rfl); (case hy_52 => (intro w' hSw; refine exec_load_row (x := .tmp 3) ?_ ?_ hSw.2.2.2.2.2.2.2.2.2.2 Try.underlying27 ?_ (by rw [bvs_len]; exact d4_size) <;> rfl)); (case hs_52 => assumption); (try simp only [Act.put, List.setIfInBounds_toArray, List.set_cons_zero, List.set_cons_succ])
  refine wpAnyH_take (i := 40) (oi := ?oi_40) (v := ?v_40) ?ho_40 ?h1_40 ?h2_40 ?h3_40 ?hq_40 (Or.inl ⟨?hw_40, ?hy_40⟩) ?hs_40 ?rest_40; (case h2_40 => kernel_rfl); (case h3_40 => kernel_rfl); (case ho_40 => (simp only [List.getElem?_toArray, List.getElem?_cons_zero, List.getElem?_cons_succ]; rfl)); (case h1_40 => kernel_rfl); (case hq_40 => exact fun _ _ _ h => h); (case hw_40 => rfl); (case hy_40 => (intro w' hSw; (try simp only [S] at hSw); go_simp; (try with_reducible rfl))); (case hs_40 => assumption); (try simp only [Act.put, List.setIfInBounds_toArray, List.set_cons_zero, List.set_cons_succ])
  refine wpAnyH_take (i := 41) (oi := ?oi_41) (v := ?v_41) ?ho_41 ?h1_41 ?h2_41 ?h3_41 ?hq_41 (Or.inl ⟨?hw_41, ?hy_41⟩) ?hs_41 ?rest_41; (case h2_41 => kernel_rfl); (case h3_41 => kernel_rfl); (case ho_41 => (simp only [List.getElem?_toArray, List.getElem?_cons_zero, List.getElem?_cons_succ]; rfl)); (case h1_41 => kernel_rfl); (case hq_41 => exact fun _ _ _ h => h); (case hw_41 => rfl); (case hy_41 => (intro w' hSw; (try simp only [S] at hSw); go_simp; (try with_reducible rfl))); (case hs_41 => assumption); (try simp only [Act.put, List.setIfInBounds_toArray, List.set_cons_zero, List.set_cons_succ])
  refine wpAnyH_take (i := 42) (oi := ?oi_42) (v := ?v_42) ?ho_42 ?h1_42 ?h2_42 ?h3_42 ?hq_42 (Or.inl ⟨?hw_42, ?hy_42⟩) ?hs_42 ?rest_42; (case h2_42 => kernel_rfl); (case h3_42 => kernel_rfl); (case ho_42 => (simp only [List.getElem?_toArray, List.getElem?_cons_zero, List.getElem?_cons_succ]; rfl)); (case h1_42 => kernel_rfl); (case hq_42 => exact fun _ _ _ h => h); (case hw_42 => rfl); (case hy_42 => (intro w' hSw; (try simp only [S] at hSw); go_simp; (try with_reducible rfl))); (case hs_42 => assumption); (try simp only [Act.put, List.setIfInBounds_toArray, List.set_cons_zero, List.set_cons_succ])
  refine wpAnyH_take (i := 43) (oi := ?oi_43) (v := ?v_43) ?ho_43 ?h1_43 ?h2_43 ?h3_43 ?hq_43 (Or.inl ⟨?hw_43, ?hy_43⟩) ?hs_43 ?rest_43; (case h2_43 => kernel_rfl); (case h3_43 => kernel_rfl); (case ho_43 => (simp only [List.getElem?_toArray, List.getElem?_cons_zero, List.getElem?_cons_succ]; rfl)); (case h1_43 => kernel_rfl); (case hq_43 => exact fun _ _ _ h => h); (case hw_43 => rfl); (case hy_43 => (intro w' hSw; (try simp only [S] at hSw); go_simp; (try with_reducible rfl))); (case hs_43 => assumption); (try simp only [Act.put, List.setIfInBounds_toArray, List.set_cons_zero, List.set_cons_succ])
  have hcv1 : (convert 22 22 (.slice (some ⟨Y.heap.size, 0, none⟩) 2 2)).run Try.prog (Y.alloc (.cells #[.int .u8 98, .int .u8 99] 5)).drew = .ok (.slice (some ⟨Y.heap.size, 0, none⟩) 2 2) (Y.alloc (.cells #[.int .u8 98, .int .u8 99] 5 (2, 3))).drew := hcv Y.drew #[.int .u8 98, .int .u8 99] 2 2
  have hsl : Sl (Y.alloc (.cells #[.int .u8 98, .int .u8 99] 5 (2, 3))).drew (Y.alloc (.cells #[.int .u8 98, .int .u8 99] 5 (2, 3))).drew.heap.size 1 (some ⟨Y.heap.size, 0, none⟩) 2 [.int .u8 98, .int .u8 99] := Sl.new (w := Y.drew.alloc (.cells #[.int .u8 98, .int .u8 99] 5 (2, 3))) (n := 2) (cs := #[.int .u8 98, .int .u8 99]) (heap_alloc_new Y.drew _) rfl
  clear hcv
  refine wpAnyH_take (i := 47) (oi := ?oi_53) (v := ?v_53) ?ho_53 ?h1_53 ?h2_53 ?h3_53 ?hq_53 (Or.inl ⟨?hw_53, ?hy_53⟩) ?hs_53 ?rest_53; (case h2_53 => kernel_rfl); (case h3_53 => kernel_rfl); (case ho_53 => (simp only [List.getElem?_toArray, List.getElem?_cons_zero, List.getElem?_cons_succ]; rfl)); (case h1_53 => kernel_rfl); (case hq_53 => exact fun _ _ _ h => h); (case hw_53 => rfl); (case hy_53 => (intro w' hSw; refine exec_load_row (x := .tmp 1) ?_ ?_ hSw.2.2.2.2.2.2.2.2.1 Try.underlying24 ?_ (by rw [bvs_len, hlA]; exact d32_size) <;> rfl)); (case hs_53 => assumption); (try simp only [Act.put, List.setIfInBounds_toArray, List.set_cons_zero, List.set_cons_succ])
  refine wpAnyH_ready (rs := [44]) (by kernel_rfl) (by simp) (AllReadyH.cons (o := ?oo44_58) ?hoo44_58 (fun K hK => ?steponly58) AllReadyH.nil); (case hoo44_58 => (simp only [List.getElem?_toArray, List.getElem?_cons_zero, List.getElem?_cons_succ]; rfl))
  go_simp
  refine hK.out _ _ (hSS _ (((Below.refl _ Y).alloc (Nat.le_refl _) _).drew)) (fun _ => ?_)
  clear hK K
  (try simp only [Act.put, List.setIfInBounds_toArray, List.set_cons_zero, List.set_cons_succ])
  refine wpAnyH_ready (rs := [45]) (by kernel_rfl) (by simp) (AllReadyH.cons (o := ?oo45_59) ?hoo45_59 (fun K hK => ?steponly59) AllReadyH.nil); (case hoo45_59 => (simp only [List.getElem?_toArray, List.getElem?_cons_zero, List.getElem?_cons_succ]; rfl))
  go_simp
  refine hK.out _ _ (hSS _ (((Below.refl _ Y).alloc (Nat.le_refl _) _).drew)) (fun _ => ?_)
  clear hK K
  (try simp only [Act.put, List.setIfInBounds_toArray, List.set_cons_zero, List.set_cons_succ])
  refine wpAnyH_ready (rs := [46]) (by kernel_rfl) (by simp) (AllReadyH.cons (o := ?oo46_60) ?hoo46_60 (fun K hK => ?steponly60) AllReadyH.nil); (case hoo46_60 => (simp only [List.getElem?_toArray, List.getElem?_cons_zero, List.getElem?_cons_succ]; rfl))
  go_simp
  refine Calls.mono (hof _ _ _ _ (Nat.le_refl _) hsl) ?_
  rintro e Z ⟨rfl, hbZ⟩
  have hBZ : Below Y.heap.size Y Z := (((Below.refl _ Y).alloc (Nat.le_refl _) _).drew).trans (hbZ.mono (by show _ ≤ (World.alloc Y _).heap.size; rw [World.size_alloc]; exact Nat.le_succ _))
  refine hK.out _ _ (hSS _ hBZ) (fun _ => ?_)
  clear hK K
  (try simp only [Act.put, List.setIfInBounds_toArray, List.set_cons_zero, List.set_cons_succ])
  refine wpAnyH_take (i := 48) (oi := ?oi_44) (v := ?v_44) ?ho_44 ?h1_44 ?h2_44 ?h3_44 ?hq_44 (Or.inl ⟨?hw_44, ?hy_44⟩) ?hs_44 ?rest_44; (case h2_44 => kernel_rfl); (case h3_44 => kernel_rfl); (case ho_44 => (simp only [List.getElem?_toArray, List.getElem?_cons_zero, List.getElem?_cons_succ]; rfl)); (case h1_44 => kernel_rfl); (case hq_44 => exact fun _ _ _ h => h); (case hw_44 => rfl); (case hy_44 => (intro w' hSw; (try simp only [S] at hSw); go_simp; (try with_reducible rfl))); (case hs_44 => assumption); (try simp only [Act.put, List.setIfInBounds_toArray, List.set_cons_zero, List.set_cons_succ])
  refine wpAnyH_take (i := 49) (oi := ?oi_45) (v := ?v_45) ?ho_45 ?h1_45 ?h2_45 ?h3_45 ?hq_45 (Or.inl ⟨?hw_45, ?hy_45⟩) ?hs_45 ?rest_45; (case h2_45 => kernel_rfl); (case h3_45 => kernel_rfl); (case ho_45 => (simp only [List.getElem?_toArray, List.getElem?_cons_zero, List.getElem?_cons_succ]; rfl)); (case h1_45 => kernel_rfl); (case hq_45 => exact fun _ _ _ h => h); (case hw_45 => rfl); (case hy_45 => (intro w' hSw; (try simp only [S] at hSw); go_simp; (try with_reducible rfl))); (case hs_45 => assumption); (try simp only [Act.put, List.setIfInBounds_toArray, List.set_cons_zero, List.set_cons_succ])
  refine wpAnyH_take (i := 50) (oi := ?oi_46) (v := ?v_46) ?ho_46 ?h1_46 ?h2_46 ?h3_46 ?hq_46 (Or.inl ⟨?hw_46, ?hy_46⟩) ?hs_46 ?rest_46; (case h2_46 => kernel_rfl); (case h3_46 => kernel_rfl); (case ho_46 => (simp only [List.getElem?_toArray, List.getElem?_cons_zero, List.getElem?_cons_succ]; rfl)); (case h1_46 => kernel_rfl); (case hq_46 => exact fun _ _ _ h => h); (case hw_46 => rfl); (case hy_46 => (intro w' hSw; (try simp only [S] at hSw); go_simp; (try with_reducible rfl))); (case hs_46 => assumption); (try simp only [Act.put, List.setIfInBounds_toArray, List.set_cons_zero, List.set_cons_succ])
  refine wpAnyH_take (i := 51) (oi := ?oi_54) (v := ?v_54) ?ho_54 ?h1_54 ?h2_54 ?h3_54 ?hq_54 (Or.inl ⟨?hw_54, ?hy_54⟩) ?hs_54 ?rest_54; (case h2_54 => kernel_rfl); (case h3_54 => kernel_rfl); (case ho_54 => (simp only [List.getElem?_toArray, List.getElem?_cons_zero, List.getElem?_cons_succ]; rfl)); (case h1_54 => kernel_rfl); (case hq_54 => exact fun _ _ _ h => h); (case hw_54 => rfl); (case hy_54 => (intro w' hSw; refine exec_load_row (x := .tmp 1) ?_ ?_ hSw.2.2.2.2.2.2.2.2.1 Try.underlying24 ?_ (by rw [bvs_len, hlA]; exact d32_size) <;> rfl)); (case hs_54 => assumption); (try simp only [Act.put, List.setIfInBounds_toArray, List.set_cons_zero, List.set_cons_succ])
  refine wpAnyH_take (i := 52) (oi := ?oi_55) (v := ?v_55) ?ho_55 ?h1_55 ?h2_55 ?h3_55 ?hq_55 (Or.inl ⟨?hw_55, ?hy_55⟩) ?hs_55 ?rest_55; (case h2_55 => kernel_rfl); (case h3_55 => kernel_rfl); (case ho_55 => (simp only [List.getElem?_toArray, List.getElem?_cons_zero, List.getElem?_cons_succ]; rfl)); (case h1_55 => kernel_rfl); (case hq_55 => exact fun _ _ _ h => h); (case hw_55 => rfl); (case hy_55 => (intro w' hSw; refine exec_load_row (x := .tmp 2) ?_ ?_ hSw.2.2.2.2.2.2.2.2.2.1 Try.underlying24 ?_ (by rw [bvs_len, hlB]; exact d32_size) <;> rfl)); (case hs_55 => assumption); (try simp only [Act.put, List.setIfInBounds_toArray, List.set_cons_zero, List.set_cons_succ])
  refine wpAnyH_ready (rs := [53]) (by kernel_rfl) (by simp) (AllReadyH.cons (o := ?oo53_61) ?hoo53_61 (fun K hK => ?steponly61) AllReadyH.nil); (case hoo53_61 => (simp only [List.getElem?_toArray, List.getElem?_cons_zero, List.getElem?_cons_succ]; rfl))
  go_simp
  refine Calls.mono (hless _) ?_
  rintro e Z1 ⟨rfl, hbZ1⟩
  replace hBZ := hBZ.trans (hbZ1.mono hBZ.size)
  clear hbZ hbZ1
  refine hK.out _ _ (hSS _ hBZ) (fun _ => ?_)
  clear hK K
  (try simp only [Act.put, List.setIfInBounds_toArray, List.set_cons_zero, List.set_cons_succ])
  refine wpAnyH_take (i := 54) (oi := ?oi_47) (v := ?v_47) ?ho_47 ?h1_47 ?h2_47 ?h3_47 ?hq_47 (Or.inl ⟨?hw_47, ?hy_47⟩) ?hs_47 ?rest_47; (case h2_47 => kernel_rfl); (case h3_47 => kernel_rfl); (case ho_47 => (simp only [List.getElem?_toArray, List.getElem?_cons_zero, List.getElem?_cons_succ]; rfl)); (case h1_47 => kernel_rfl); (case hq_47 => exact fun _ _ _ h => h); (case hw_47 => rfl); (case hy_47 => (intro w' hSw; (try simp only [S] at hSw); go_simp; (try with_reducible rfl))); (case hs_47 => assumption); (try simp only [Act.put, List.setIfInBounds_toArray, List.set_cons_zero, List.set_cons_succ])
  refine wpAnyH_take (i := 55) (oi := ?oi_48) (v := ?v_48) ?ho_48 ?h1_48 ?h2_48 ?h3_48 ?hq_48 (Or.inl ⟨?hw_48, ?hy_48⟩) ?hs_48 ?rest_48; (case h2_48 => kernel_rfl); (case h3_48 => kernel_rfl); (case ho_48 => (simp only [List.getElem?_toArray, List.getElem?_cons_zero, List.getElem?_cons_succ]; rfl)); (case h1_48 => kernel_rfl); (case hq_48 => exact fun _ _ _ h => h); (case hw_48 => rfl); (case hy_48 => (intro w' hSw; (try simp only [S] at hSw); go_simp; (try with_reducible rfl))); (case hs_48 => assumption); (try simp only [Act.put, List.setIfInBounds_toArray, List.set_cons_zero, List.set_cons_succ])
  refine wpAnyH_take (i := 56) (oi := ?oi_56) (v := ?v_56) ?ho_56 ?h1_56 ?h2_56 ?h3_56 ?hq_56 (Or.inl ⟨?hw_56, ?hy_56⟩) ?hs_56 ?rest_56; (case h2_56 => kernel_rfl); (case h3_56 => kernel_rfl); (case ho_56 => (simp only [List.getElem?_toArray, List.getElem?_cons_zero, List.getElem?_cons_succ]; rfl)); (case h1_56 => kernel_rfl); (case hq_56 => exact fun _ _ _ h => h); (case hw_56 => rfl); (case hy_56 => (intro w' hSw; refine exec_load_row (x := .tmp 2) ?_ ?_ hSw.2.2.2.2.2.2.2.2.2.1 Try.underlying24 ?_ (by rw [bvs_len, hlB]; exact d32_size) <;> rfl)); (case hs_56 => assumption); (try simp only [Act.put, List.setIfInBounds_toArray, List.set_cons_zero, List.set_cons_succ])
  refine wpAnyH_take (i := 57) (oi := ?oi_57) (v := ?v_57) ?ho_57 ?h1_57 ?h2_57 ?h3_57 ?hq_57 (Or.inl ⟨?hw_57, ?hy_57⟩) ?hs_57 ?rest_57; (case h2_57 => kernel_rfl); (case h3_57 => kernel_rfl); (case ho_57 => (simp only [List.getElem?_toArray, List.getElem?_cons_zero, List.getElem?_cons_succ]; rfl)); (case h1_57 => kernel_rfl); (case hq_57 => exact fun _ _ _ h => h); (case hw_57 => rfl); (case hy_57 => (intro w' hSw; refine exec_load_row (x := .tmp 1) ?_ ?_ hSw.2.2.2.2.2.2.2.2.1 Try.underlying24 ?_ (by rw [bvs_len, hlA]; exact d32_size) <;> rfl)); (case hs_57 => assumption); (try simp only [Act.put, List.setIfInBounds_toArray, List.set_cons_zero, List.set_cons_succ])
  refine wpAnyH_ready (rs := [58]) (by kernel_rfl) (by simp) (AllReadyH.cons (o := ?oo58_62) ?hoo58_62 (fun K hK => ?steponly62) AllReadyH.nil); (case hoo58_62 => (simp only [List.getElem?_toArray, List.getElem?_cons_zero, List.getElem?_cons_succ]; rfl))
  go_simp
  refine Calls.mono (hmore _) ?_
  rintro e Z2 ⟨rfl, hbZ2⟩
  replace hBZ := hBZ.trans (hbZ2.mono hBZ.size)
  refine hK.out _ _ (hSS _ hBZ) (fun _ => ?_)
  clear hK K
  (try simp only [Act.put, List.setIfInBounds_toArray, List.set_cons_zero, List.set_cons_succ])
  refine wpAnyH_take (i := 59) (oi := ?oi_49) (v := ?v_49) ?ho_49 ?h1_49 ?h2_49 ?h3_49 ?hq_49 (Or.inl ⟨?hw_49, ?hy_49⟩) ?hs_49 ?rest_49; (case h2_49 => kernel_rfl); (case h3_49 => kernel_rfl); (case ho_49 => (simp only [List.getElem?_toArray, List.getElem?_cons_zero, List.getElem?_cons_succ]; rfl)); (case h1_49 => kernel_rfl); (case hq_49 => exact fun _ _ _ h => h); (case hw_49 => rfl); (case hy_49 => (intro w' hSw; (try simp only [S] at hSw); go_simp; (try with_reducible rfl))); (case hs_49 => assumption); (try simp only [Act.put, List.setIfInBounds_toArray, List.set_cons_zero, List.set_cons_succ])
  refine wpAnyH_take (i := 60) (oi := ?oi_50) (v := ?v_50) ?ho_50 ?h1_50 ?h2_50 ?h3_50 ?hq_50 (Or.inl ⟨?hw_50, ?hy_50⟩) ?hs_50 ?rest_50; (case h2_50 => kernel_rfl); (case h3_50 => kernel_rfl); (case ho_50 => (simp only [List.getElem?_toArray, List.getElem?_cons_zero, List.getElem?_cons_succ]; rfl)); (case h1_50 => kernel_rfl); (case hq_50 => exact fun _ _ _ h => h); (case hw_50 => rfl); (case hy_50 => (intro w' hSw; (try simp only [S] at hSw); go_simp; (try with_reducible rfl))); (case hs_50 => assumption); (try simp only [Act.put, List.setIfInBounds_toArray, List.set_cons_zero, List.set_cons_succ])
  refine wpAnyH_take (i := 61) (oi := ?oi_51) (v := ?v_51) ?ho_51 ?h1_51 ?h2_51 ?h3_51 ?hq_51 (Or.inl ⟨?hw_51, ?hy_51⟩) ?hs_51 ?rest_51; (case h2_51 => kernel_rfl); (case h3_51 => kernel_rfl); (case ho_51 => (simp only [List.getElem?_toArray, List.getElem?_cons_zero, List.getElem?_cons_succ]; rfl)); (case h1_51 => kernel_rfl); (case hq_51 => exact fun _ _ _ h => h); (case hw_51 => rfl); (case hy_51 => (intro w' hSw; (try simp only [S] at hSw); go_simp; (try with_reducible rfl))); (case hs_51 => assumption); (try simp only [Act.put, List.setIfInBounds_toArray, List.set_cons_zero, List.set_cons_succ])
  refine wpAnyH_done (by kernel_rfl) ?_ _
  go_wp2
  go_ret
  exact Ret.mk rfl (hBY.trans (hBZ.mono hzYw))
end Go.Proofs.Ytacchnmoohlcpaa
