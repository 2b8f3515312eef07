/- The walk over leaf.sealed. -/
import Derived.Test.YthmjkgpfnpdddaaLfPlain
import Derived.Test.YthmjkgpfnpdddaaObjBody
namespace Go.Proofs.Ythmjkgpfnpdddaa
set_option linter.unusedSimpArgs false
set_option linter.unusedVariables false
open Go.RowKit Go.ChangeShapes Go.WideShapes Go.Sort
attribute [-go_sem] Builtin.append_

/-- the cells of an own row, as a copy reads them -/
theorem own_src {w : World} {base : Nat} {e : TypeId} {A : Option Addr} {n c : Nat} {xs : List Value} (h : w.ownsRow base e 1 (.slice A n c) n xs) (h0 : 0 < n) : ∃ ad, A = some ad ∧ ∀ j v, xs[j]? = some v → w.cell? (ad.add j) = some v := by
  rcases h.2 with ⟨h1, e⟩ | ⟨g, cap, cur, e, h1, h2, h3, h4, h5, h6⟩
  · omega
  · simp only [Value.slice.injEq] at e
    obtain ⟨rfl, -, rfl⟩ := e
    refine ⟨⟨g, 0, none⟩, rfl, fun j v hj => ?_⟩
    rw [addr_add, Nat.zero_add]
    refine blk_cell h2 ?_
    rw [← h6, List.getElem?_take] at hj
    split at hj
    · simpa using hj
    · cases hj
set_option maxHeartbeats 8000000 in
set_option maxRecDepth 100000 in
theorem sealed_any {A : Option Addr} {n c : Nat} {l : List UInt8} (w : World) (hs : Sl w w.heap.size 1 A n (bvs l)) (hl : l.length = n) (hn : n ≤ 124) : Calls Try.prog 43 #[.slice A n c] w (Ret w (bkv (sealB l))) := by
  have hck := fun W (h : Sl W W.heap.size 1 A n (bvs l)) => check_any (l := l) (A := A) (B := W.heap.size) (c := c) (by omega) W (Nat.le_refl _) (by rw [hl]; exact h)
  have hcl := fun W (h : Sl W W.heap.size 1 A n (bvs l)) => sclone_any (l := l) (A := A) (B := W.heap.size) (c := c) (by omega) W (Nat.le_refl _) (by rw [hl]; exact h)
  simp only [hl, chk_first] at hck hcl
  have hF4 := chk_len l
  have hsb : sealB l = pad (l ++ chk l) := rfl
  obtain ⟨F, hFe⟩ : ∃ q, chk l = q := ⟨_, rfl⟩
  rw [hFe] at hsb hF4
  simp only [hFe] at hck
  have hpl : (pad (l ++ F)).length = 128 := pad_len (by rw [List.length_append]; omega)
  unfold bkv
  rw [hsb]
  clear hFe hsb
  have HS := Lib.hid hs
  have HN := Lib.hid hl
  clear hs hl
  go_enter Try.func43, Try.ntmps43
  obtain ⟨zb, hzb⟩ : ∃ q, (bvs zblk).toArray = q := ⟨_, rfl⟩
  have hbz := blkZ
  have hzs : zb.size = 128 := by rw [← hzb, List.size_toArray, bvs_len, zblk_len]
  rw [hzb] at hbz
  have HZ := Lib.hid hzb
  clear hzb
  go_upto_region 1 with (first | (refine wpList_new rfl hbz rfl ?_) | fail)
  obtain ⟨W, hW⟩ : ∃ q, w.alloc (.cells zb 40) = q := ⟨_, rfl⟩
  have a2 : W.heap[w.heap.size]? = some (.cells zb 40) := by rw [← hW]; exact heap_alloc_new _ _
  have hB : Below w.heap.size w W := by rw [← hW]; exact (Below.refl _ _).alloc (Nat.le_refl _) _
  try rw [hW]
  clear hW
  have hck' := hck W (HS.out.next hB)
  have l2 := (Array.getElem?_eq_some_iff.1 a2).1
  have H1 := Lib.hid (And.intro a2 hB)
  clear a2 hB hck
  obtain ⟨y4, hy⟩ : ∃ z, zs 4 = z := ⟨_, rfl⟩
  have hyl : y4.length = 4 := by rw [← hy]; rfl
  have hyZ := d4Z
  rw [hy] at hyZ
  clear hy
  go_upto_region 2 with (first
    | (go_at_call 22; go_loud (with_reducible refine Calls.mono hck' ?_); clear hck'; rintro e W5 ⟨rfl, hb5⟩)
    | (refine wpList_new rfl hyZ rfl ?_)
    | (refine wpList_store_row rfl 41 (.tmp 3) (.tmp 6) rfl _ (bvs F).toArray rfl rfl _ (bvs y4).toArray (heap_alloc_new _ _) (d4_info hF4) (by rw [List.size_toArray, List.size_toArray, bvs_len, bvs_len, hyl, hF4]) (all_oneCell_toArray (oneCell_bvs _)) ?_)
    | fail)
  obtain ⟨X, hX, x3, bX⟩ := newRow W5 (bvs y4).toArray (bvs F).toArray 41
  rw [hX]
  have hb5X : Below W.heap.size W X := hb5.trans (bX.mono hb5.size)
  have a2 := bBlk hb5X l2 H1.out.1
  have hB := bNext H1.out.2 hb5X
  have l3 := (Array.getElem?_eq_some_iff.1 x3).1
  clear hX bX hb5 hb5X hyZ
  go_upto_region 3 with (first | (refine wpList_new rfl hbz rfl ?_) | fail)
  obtain ⟨V, hV⟩ : ∃ q, X.alloc (.cells zb 40) = q := ⟨_, rfl⟩
  have v4 : V.heap[X.heap.size]? = some (.cells zb 40) := by rw [← hV]; exact heap_alloc_new _ _
  have hbV : Below X.heap.size X V := by rw [← hV]; exact (Below.refl _ _).alloc (Nat.le_refl _) _
  try rw [hV]
  have hwX := (Array.getElem?_eq_some_iff.1 a2).1
  replace a2 := bBlk hbV hwX a2
  replace x3 := bBlk hbV l3 x3
  replace hB := bNext hB hbV
  have l4 := (Array.getElem?_eq_some_iff.1 v4).1
  have l3V := (Array.getElem?_eq_some_iff.1 x3).1
  have l2V := (Array.getElem?_eq_some_iff.1 a2).1
  have hcl' := hcl V.drew (HS.out.next hB.drew)
  clear hV hbV hcl
  let S : World → Prop := fun _ => True
  have hS0 : S V.drew := trivial
  have hT0 : Below V.heap.size V V.drew := (Below.refl _ _).drew
  refine wp_region_held (S := S) (by kernel_rfl) ?_
  change wpAnyH _ _ _ _ S _ _ _ V.drew
  refine wpAnyH_take (i := 0) (oi := ?oi_1019) (v := ?v_1019) ?ho_1019 ?h1_1019 ?h2_1019 ?h3_1019 ?hq_1019 (Or.inl ⟨?hw_1019, ?hy_1019⟩) ?hs_1019 ?rest_1019; (case h2_1019 => kernel_rfl); (case h3_1019 => kernel_rfl); (case ho_1019 => (simp only [List.getElem?_toArray, List.getElem?_cons_zero, List.getElem?_cons_succ]; rfl)); (case h1_1019 => kernel_rfl); (case hq_1019 => exact fun _ _ _ h => h); (case hw_1019 => rfl); (case hy_1019 => (intro w' hSw; (try simp only [S] at hSw); go_simp; (try with_reducible rfl))); (case hs_1019 => assumption); (try simp only [Act.put, List.setIfInBounds_toArray, List.set_cons_zero, List.set_cons_succ])
  refine wpAnyH_take (i := 1) (oi := ?oi_1020) (v := ?v_1020) ?ho_1020 ?h1_1020 ?h2_1020 ?h3_1020 ?hq_1020 (Or.inl ⟨?hw_1020, ?hy_1020⟩) ?hs_1020 ?rest_1020; (case h2_1020 => kernel_rfl); (case h3_1020 => kernel_rfl); (case ho_1020 => (simp only [List.getElem?_toArray, List.getElem?_cons_zero, List.getElem?_cons_succ]; rfl)); (case h1_1020 => kernel_rfl); (case hq_1020 => exact fun _ _ _ h => h); (case hw_1020 => rfl); (case hy_1020 => (intro w' hSw; (try simp only [S] at hSw); go_simp; (try with_reducible rfl))); (case hs_1020 => assumption); (try simp only [Act.put, List.setIfInBounds_toArray, List.set_cons_zero, List.set_cons_succ])
  refine wpAnyH_take (i := 3) (oi := ?oi_1021) (v := ?v_1021) ?ho_1021 ?h1_1021 ?h2_1021 ?h3_1021 ?hq_1021 (Or.inl ⟨?hw_1021, ?hy_1021⟩) ?hs_1021 ?rest_1021; (case h2_1021 => kernel_rfl); (case h3_1021 => kernel_rfl); (case ho_1021 => (simp only [List.getElem?_toArray, List.getElem?_cons_zero, List.getElem?_cons_succ]; rfl)); (case h1_1021 => kernel_rfl); (case hq_1021 => exact fun _ _ _ h => h); (case hw_1021 => rfl); (case hy_1021 => (intro w' hSw; (try simp only [S] at hSw); go_simp; (try with_reducible rfl))); (case hs_1021 => assumption); (try simp only [Act.put, List.setIfInBounds_toArray, List.set_cons_zero, List.set_cons_succ])
  refine wpAnyH_ready (rs := [2]) (by kernel_rfl) (by simp) (AllReadyH.cons (o := ?oo2_1022) ?hoo2_1022 (fun K hK => ?steponly1022) AllReadyH.nil); (case hoo2_1022 => (simp only [List.getElem?_toArray, List.getElem?_cons_zero, List.getElem?_cons_succ]; rfl))
  go_simp
  refine Calls.mono hcl' ?_
  rintro e W9 ⟨A9, c9, rfl, hown9, hb9⟩
  have hS1 : Below V.heap.size V W9 := hT0.trans (hb9.mono (Nat.le_refl _))
  refine hK.out _ _ trivial (fun _ => ?_)
  clear hK K
  (try simp only [Act.put, List.setIfInBounds_toArray, List.set_cons_zero, List.set_cons_succ])
  have hz9 := (show Below V.heap.size V W9 from hS1).size
  have hx4 : Sl W9 W9.heap.size 1 (some ⟨W5.heap.size, 0, none⟩) 4 (bvs F) := by
    have := Sl.new (sz := 1) (n := 4) (bBlk (show Below V.heap.size V W9 from hS1) l3V x3) (by simp [bvs_len, hF4])
    exact this
  refine wpAnyH_ready (rs := [4]) (by kernel_rfl) (by simp) (AllReadyH.cons (o := ?oo4_1023) ?hoo4_1023 (fun K hK => ?steponly1023) AllReadyH.nil); (case hoo4_1023 => (simp only [List.getElem?_toArray, List.getElem?_cons_zero, List.getElem?_cons_succ]; rfl))
  refine step_app _ rfl (.tmp 9) (.tmp 10) 22 rfl Try.underlying22 elemC rfl hown9 rfl hx4 (oneCell_bvs _) (by simp only [maxLen]; omega) (by omega) (by exact hz9) ?_
  intro A11 c11 w11 hown11 hg11 hb11 hat11
  have hS2 : Below V.heap.size V w11 := hS1.trans (hb11.mono (Nat.le_refl _))
  refine hK.out _ _ trivial (fun _ => ?_)
  clear hK K
  (try simp only [Act.put, List.setIfInBounds_toArray, List.set_cons_zero, List.set_cons_succ])
  rw [← bvs_append] at hown11
  have hll : (l ++ F).length = n + 4 := by rw [List.length_append, hF4, HN.out]
  obtain ⟨ad, rfl, hcp⟩ := own_src hown11 (by omega)
  have v4' := bBlk (show Below V.heap.size V w11 from hS2) l4 v4
  have hcopy := fun ty => run_copy_cells (P := Try.prog) w11 22 22 ty 5 X.heap.size 0 128 128 ad (n + 4) c11 (bvs (l ++ F)) Try.underlying22 (by kernel_rfl) (by rw [bvs_len, hll]; exact (Nat.min_eq_left (by omega)).symm) hcp
    (fun j hj => ((there_blk v4' (o := 0) (n := 128) (by rw [hzs]; omega)) j (by rw [bvs_len, hll] at hj; omega)).1) (fun j hj => blk_frozen v4' _) (oneCell_bvs _)
  rw [bvs_len, hll] at hcopy
  obtain ⟨W8, hW8⟩ : ∃ q, w11.setCells X.heap.size 0 (bvs (l ++ F)) = q := ⟨_, rfl⟩
  have b8 : W8.heap[X.heap.size]? = some (.cells (bvs (pad (l ++ F))).toArray 40) := by
    rw [← hW8]
    have := blk_sets (bvs (l ++ F)) 0 v4'
    rw [← HZ.out, pad_cells (by rw [hll]; omega)] at this
    exact this
  have a28 : W8.heap[w.heap.size]? = some (.cells zb 40) := by
    rw [← hW8]
    exact (sets_far _ _ _ _ _ (by omega)).trans (bBlk (show Below V.heap.size V w11 from hS2) l2V a2)
  have hB8 : Below w.heap.size w W8 := by
    have h1 := bNext hB (show Below V.heap.size V w11 from hS2)
    rw [← hW8]
    exact h1.trans ((but_sets (X := fun k => k = X.heap.size) _ _ _ (But.refl _ _ _) rfl).below (by have := h1.size; omega) (fun k e => by omega))
  simp only [hW8] at hcopy
  obtain ⟨P8, hP8⟩ : ∃ q, pad (l ++ F) = q := ⟨_, rfl⟩
  rw [hP8] at b8 hpl
  rw [hP8]
  have HP8 := Lib.hid hP8
  have R := Lib.hid (And.intro b8 (And.intro a28 hB8))
  clear b8 a28 hB8 hW8 hP8 hcp hown11 hg11 hb11 hat11 hown9 hb9 hx4 hS1 hS2 hT0 v4' v4 x3 a2 hB
  refine wpAnyH_ready (rs := [5]) (by kernel_rfl) (by simp) (AllReadyH.cons (o := ?oo5_1024) ?hoo5_1024 (fun K hK => ?steponly1024) AllReadyH.nil); (case hoo5_1024 => (simp only [List.getElem?_toArray, List.getElem?_cons_zero, List.getElem?_cons_succ]; rfl))
  go_simp
  refine hK.out _ _ trivial (fun _ => ?_)
  clear hK K
  (try simp only [Act.put, List.setIfInBounds_toArray, List.set_cons_zero, List.set_cons_succ])
  refine wpAnyH_done (by kernel_rfl) ?_ _
  go_upto_region 4 with (fail)
  refine wp_region_lit ?_
  refine wpList_load_row rfl 40 (.tmp 4) rfl _ rfl _ (bvs P8).toArray (0, 0) _ R.out.1 Try.underlying40 rfl (bk_info hpl) ?_
  (try simp only [Act.put, List.setIfInBounds_toArray, List.set_cons_zero, List.set_cons_succ])
  refine wpList_store_row rfl 40 (.tmp 2) (.tmp 13) rfl _ (bvs P8).toArray rfl rfl _ zb R.out.2.1 (bk_info hpl) (by rw [hzs, List.size_toArray, bvs_len, hpl]) (all_oneCell_toArray (oneCell_bvs _)) ?_
  (try simp only [Act.put, List.setIfInBounds_toArray, List.set_cons_zero, List.set_cons_succ])
  go_wp2_with fail
  generalize hX : World.setRow _ _ _ = X9
  have b9 : X9.heap[w.heap.size]? = some (.cells (bvs P8).toArray 40) := by rw [← hX]; exact setRow_heap _ _ _ _ _ _ R.out.2.1
  have hBX : Below w.heap.size w X9 := by rw [← hX]; exact bSetRow R.out.2.2 (Nat.le_refl _) _
  clear hX
  have hld := run_loadVar_row (P := Try.prog) X9 _ _ 40 _ _ _ b9 Try.underlying40 rfl (bk_info hpl)
  refine bodyPost_ret (by simp [results, Try.results43, Act.put, asAddr, Result.andThen, hld]; try rfl) rfl ?_
  exact Ret.mk (by rw [HP8.out]) hBX
end Go.Proofs.Ythmjkgpfnpdddaa
