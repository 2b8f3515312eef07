/- The walk over the reference's Block. -/
import Derived.Test.YthmjkgpfnpdddaaLfSeal
namespace Go.Proofs.Ythmjkgpfnpdddaa
set_option linter.unusedSimpArgs false
set_option linter.unusedVariables false
open Go.RowKit Go.ChangeShapes Go.WideShapes Go.Sort
attribute [-go_sem] Builtin.append_
set_option maxHeartbeats 8000000 in
set_option maxRecDepth 100000 in
theorem rblock_any {A : Option Addr} {n c : Nat} {l : List UInt8} (w : World) (hs : Sl w w.heap.size 1 A n (bvs l)) (hl : l.length = n) (hn : n ≤ 124) : Calls Try.prog 44 #[.slice A n c] w (Ret w (bkv (sealB l))) := by
  have hck := fun W (h : Sl W W.heap.size 1 A n (bvs l)) => rcheck_any (l := l) (A := A) (B := W.heap.size) (c := c) (by omega) W (Nat.le_refl _) (by rw [hl]; exact h)
  simp only [hl, chk_first] at hck
  have hF4 := chk_len l
  have hsb : sealB l = pad (l ++ chk l) := rfl
  obtain ⟨F, hFe⟩ : ∃ q, chk l = q := ⟨_, rfl⟩
  rw [hFe] at hsb hF4
  simp only [hFe] at hck
  have hpl : (pad (l ++ F)).length = 128 := pad_len (by rw [List.length_append]; omega)
  unfold bkv
  rw [hsb]
  clear hFe hsb
  have HS := Lib.hid hs
  have HN := Lib.hid hl
  clear hs hl
  go_enter Try.func44, Try.ntmps44
  obtain ⟨zb, hzb⟩ : ∃ q, (bvs zblk).toArray = q := ⟨_, rfl⟩
  have hbz := blkZ
  have hzs : zb.size = 128 := by rw [← hzb, List.size_toArray, bvs_len, zblk_len]
  rw [hzb] at hbz
  have HZ := Lib.hid hzb
  clear hzb
  go_upto_region 1 with (first | (refine wpList_new rfl hbz rfl ?_) | fail)
  obtain ⟨W, hW⟩ : ∃ q, w.alloc (.cells zb 40) = q := ⟨_, rfl⟩
  have a2 : W.heap[w.heap.size]? = some (.cells zb 40) := by rw [← hW]; exact heap_alloc_new _ _
  have hB : Below w.heap.size w W := by rw [← hW]; exact (Below.refl _ _).alloc (Nat.le_refl _) _
  try rw [hW]
  clear hW
  have l2 := (Array.getElem?_eq_some_iff.1 a2).1
  go_upto_region 2 with (first | (refine wpList_new rfl hbz rfl ?_) | fail)
  obtain ⟨V, hV⟩ : ∃ q, W.alloc (.cells zb 40) = q := ⟨_, rfl⟩
  have v4 : V.heap[W.heap.size]? = some (.cells zb 40) := by rw [← hV]; exact heap_alloc_new _ _
  have hbV : Below W.heap.size W V := by rw [← hV]; exact (Below.refl _ _).alloc (Nat.le_refl _) _
  try rw [hV]
  replace a2 := bBlk hbV l2 a2
  replace hB := bNext hB hbV
  have l4 := (Array.getElem?_eq_some_iff.1 v4).1
  have l2V := (Array.getElem?_eq_some_iff.1 a2).1
  have hs0 := HS.out.next hB
  have hb1 : Below V.heap.size V (V.drew.alloc (.cells #[] 5)) := ((Below.refl _ V).drew).alloc (Nat.le_refl _) _
  have own0 : (V.drew.alloc (.cells #[] 5)).ownsRow V.heap.size 5 1 (.slice (some ⟨V.heap.size, 0, none⟩) 0 0) 0 [] := own_none' V.drew _ _ _ (Nat.le_refl _)
  have hs1 := hs0.below hb1
  clear hV hbV
  let S : World → Prop := fun _ => True
  have hS0 : S V.drew := trivial
  have hT0 : Below V.heap.size V V.drew := (Below.refl _ _).drew
  refine wp_region_held (S := S) (by kernel_rfl) ?_
  change wpAnyH _ _ _ _ S _ _ _ V.drew
  refine wpAnyH_take (i := 0) (oi := ?oi_1025) (v := ?v_1025) ?ho_1025 ?h1_1025 ?h2_1025 ?h3_1025 ?hq_1025 (Or.inl ⟨?hw_1025, ?hy_1025⟩) ?hs_1025 ?rest_1025; (case h2_1025 => kernel_rfl); (case h3_1025 => kernel_rfl); (case ho_1025 => (simp only [List.getElem?_toArray, List.getElem?_cons_zero, List.getElem?_cons_succ]; rfl)); (case h1_1025 => kernel_rfl); (case hq_1025 => exact fun _ _ _ h => h); (case hw_1025 => rfl); (case hy_1025 => (intro w' hSw; (try simp only [S] at hSw); go_simp; (try with_reducible rfl))); (case hs_1025 => assumption); (try simp only [Act.put, List.setIfInBounds_toArray, List.set_cons_zero, List.set_cons_succ])
  refine wpAnyH_take (i := 2) (oi := ?oi_1026) (v := ?v_1026) ?ho_1026 ?h1_1026 ?h2_1026 ?h3_1026 ?hq_1026 (Or.inl ⟨?hw_1026, ?hy_1026⟩) ?hs_1026 ?rest_1026; (case h2_1026 => kernel_rfl); (case h3_1026 => kernel_rfl); (case ho_1026 => (simp only [List.getElem?_toArray, List.getElem?_cons_zero, List.getElem?_cons_succ]; rfl)); (case h1_1026 => kernel_rfl); (case hq_1026 => exact fun _ _ _ h => h); (case hw_1026 => rfl); (case hy_1026 => (intro w' hSw; (try simp only [S] at hSw); go_simp; (try with_reducible rfl))); (case hs_1026 => assumption); (try simp only [Act.put, List.setIfInBounds_toArray, List.set_cons_zero, List.set_cons_succ])
  refine wpAnyH_take (i := 4) (oi := ?oi_1027) (v := ?v_1027) ?ho_1027 ?h1_1027 ?h2_1027 ?h3_1027 ?hq_1027 (Or.inl ⟨?hw_1027, ?hy_1027⟩) ?hs_1027 ?rest_1027; (case h2_1027 => kernel_rfl); (case h3_1027 => kernel_rfl); (case ho_1027 => (simp only [List.getElem?_toArray, List.getElem?_cons_zero, List.getElem?_cons_succ]; rfl)); (case h1_1027 => kernel_rfl); (case hq_1027 => exact fun _ _ _ h => h); (case hw_1027 => rfl); (case hy_1027 => (intro w' hSw; (try simp only [S] at hSw); go_simp; (try with_reducible rfl))); (case hs_1027 => assumption); (try simp only [Act.put, List.setIfInBounds_toArray, List.set_cons_zero, List.set_cons_succ])
  refine wpAnyH_ready (rs := [1]) (by kernel_rfl) (by simp) (AllReadyH.cons (o := ?oo1_1028) ?hoo1_1028 (fun K hK => ?steponly1028) AllReadyH.nil); (case hoo1_1028 => (simp only [List.getElem?_toArray, List.getElem?_cons_zero, List.getElem?_cons_succ]; rfl))
  go_simp
  refine hK.out _ _ trivial (fun _ => ?_)
  clear hK K
  (try simp only [Act.put, List.setIfInBounds_toArray, List.set_cons_zero, List.set_cons_succ])
  refine wpAnyH_ready (rs := [3]) (by kernel_rfl) (by simp) (AllReadyH.cons (o := ?oo3_1029) ?hoo3_1029 (fun K hK => ?steponly1029) AllReadyH.nil); (case hoo3_1029 => (simp only [List.getElem?_toArray, List.getElem?_cons_zero, List.getElem?_cons_succ]; rfl))
  refine step_app _ rfl (.tmp 5) (.tmp 6) 22 rfl Try.underlying22 elemC rfl own0 rfl hs1 (oneCell_bvs _) (by simp only [maxLen]; omega) (by omega) (by simp) ?_
  intro A7 c7 w7 hown7 hg7 hb7 hat7
  simp only [Nat.zero_add, List.nil_append] at hown7 ⊢
  have hS1 : Below V.heap.size V w7 := hb1.trans hb7
  refine hK.out _ _ trivial (fun _ => ?_)
  clear hK K
  (try simp only [Act.put, List.setIfInBounds_toArray, List.set_cons_zero, List.set_cons_succ])
  have hck' := hck w7 (hs0.next hS1)
  clear hck
  have hz7 := hS1.size
  refine wpAnyH_ready (rs := [5]) (by kernel_rfl) (by simp) (AllReadyH.cons (o := ?oo5_1030) ?hoo5_1030 (fun K hK => ?steponly1030) AllReadyH.nil); (case hoo5_1030 => (simp only [List.getElem?_toArray, List.getElem?_cons_zero, List.getElem?_cons_succ]; rfl))
  go_simp
  refine Calls.mono hck' ?_
  rintro e W9 ⟨A9, c9, rfl, hown9, hb9⟩
  refine hK.out _ _ trivial (fun _ => ?_)
  clear hK K
  (try simp only [Act.put, List.setIfInBounds_toArray, List.set_cons_zero, List.set_cons_succ])
  have hS1b : Below V.heap.size V W9 := hS1.trans (hb9.mono hz7)
  replace hown7 := own_below hown7 hb9
  have hx4 := Sl.of_own hown9
  have hz9 := hS1b.size
  refine wpAnyH_ready (rs := [6]) (by kernel_rfl) (by simp) (AllReadyH.cons (o := ?oo6_1031) ?hoo6_1031 (fun K hK => ?steponly1031) AllReadyH.nil); (case hoo6_1031 => (simp only [List.getElem?_toArray, List.getElem?_cons_zero, List.getElem?_cons_succ]; rfl))
  refine step_app _ rfl (.tmp 7) (.tmp 9) 22 rfl Try.underlying22 elemC rfl hown7 rfl hx4 (oneCell_bvs _) (by simp only [maxLen]; omega) (by omega) (by exact hz9) ?_
  intro A11 c11 w11 hown11 hg11 hb11 hat11
  have hS2 : Below V.heap.size V w11 := hS1b.trans (hb11.mono (Nat.le_refl _))
  refine hK.out _ _ trivial (fun _ => ?_)
  clear hK K
  (try simp only [Act.put, List.setIfInBounds_toArray, List.set_cons_zero, List.set_cons_succ])
  rw [← bvs_append] at hown11
  have hll : (l ++ F).length = n + 4 := by rw [List.length_append, hF4, HN.out]
  obtain ⟨ad, rfl, hcp⟩ := own_src hown11 (by omega)
  have v4' := bBlk (show Below V.heap.size V w11 from hS2) l4 v4
  have hcopy := fun ty => run_copy_cells (P := Try.prog) w11 22 22 ty 5 W.heap.size 0 128 128 ad (n + 4) c11 (bvs (l ++ F)) Try.underlying22 (by kernel_rfl) (by rw [bvs_len, hll]; exact (Nat.min_eq_left (by omega)).symm) hcp
    (fun j hj => ((there_blk v4' (o := 0) (n := 128) (by rw [hzs]; omega)) j (by rw [bvs_len, hll] at hj; omega)).1) (fun j hj => blk_frozen v4' _) (oneCell_bvs _)
  rw [bvs_len, hll] at hcopy
  obtain ⟨W8, hW8⟩ : ∃ q, w11.setCells W.heap.size 0 (bvs (l ++ F)) = q := ⟨_, rfl⟩
  have b8 : W8.heap[W.heap.size]? = some (.cells (bvs (pad (l ++ F))).toArray 40) := by
    rw [← hW8]
    have := blk_sets (bvs (l ++ F)) 0 v4'
    rw [← HZ.out, pad_cells (by rw [hll]; omega)] at this
    exact this
  have a28 : W8.heap[w.heap.size]? = some (.cells zb 40) := by
    rw [← hW8]
    exact (sets_far _ _ _ _ _ (by omega)).trans (bBlk (show Below V.heap.size V w11 from hS2) l2V a2)
  have hB8 : Below w.heap.size w W8 := by
    have h1 := bNext hB (show Below V.heap.size V w11 from hS2)
    rw [← hW8]
    exact h1.trans ((but_sets (X := fun k => k = W.heap.size) _ _ _ (But.refl _ _ _) rfl).below (by have := h1.size; omega) (fun k e => by omega))
  simp only [hW8] at hcopy
  obtain ⟨P8, hP8⟩ : ∃ q, pad (l ++ F) = q := ⟨_, rfl⟩
  rw [hP8] at b8 hpl
  rw [hP8]
  have HP8 := Lib.hid hP8
  have R := Lib.hid (And.intro b8 (And.intro a28 hB8))
  clear b8 a28 hB8 hW8 hP8 hcp hown11 hg11 hb11 hat11 hown9 hb9 hx4 hS1 hS1b hS2 hT0 v4' v4 a2 hB hs0 hs1 hb1 hown7 hg7 hb7 hat7 own0
  refine wpAnyH_ready (rs := [7]) (by kernel_rfl) (by simp) (AllReadyH.cons (o := ?oo7_1032) ?hoo7_1032 (fun K hK => ?steponly1032) AllReadyH.nil); (case hoo7_1032 => (simp only [List.getElem?_toArray, List.getElem?_cons_zero, List.getElem?_cons_succ]; rfl))
  go_simp
  refine hK.out _ _ trivial (fun _ => ?_)
  clear hK K
  (try simp only [Act.put, List.setIfInBounds_toArray, List.set_cons_zero, List.set_cons_succ])
  refine wpAnyH_done (by kernel_rfl) ?_ _
  go_upto_region 3 with (fail)
  refine wp_region_lit ?_
  refine wpList_load_row rfl 40 (.tmp 3) rfl _ rfl _ (bvs P8).toArray (0, 0) _ R.out.1 Try.underlying40 rfl (bk_info hpl) ?_
  (try simp only [Act.put, List.setIfInBounds_toArray, List.set_cons_zero, List.set_cons_succ])
  refine wpList_store_row rfl 40 (.tmp 2) (.tmp 12) rfl _ (bvs P8).toArray rfl rfl _ zb R.out.2.1 (bk_info hpl) (by rw [hzs, List.size_toArray, bvs_len, hpl]) (all_oneCell_toArray (oneCell_bvs _)) ?_
  (try simp only [Act.put, List.setIfInBounds_toArray, List.set_cons_zero, List.set_cons_succ])
  go_wp2_with fail
  generalize hX : World.setRow _ _ _ = X9
  have b9 : X9.heap[w.heap.size]? = some (.cells (bvs P8).toArray 40) := by rw [← hX]; exact setRow_heap _ _ _ _ _ _ R.out.2.1
  have hBX : Below w.heap.size w X9 := by rw [← hX]; exact bSetRow R.out.2.2 (Nat.le_refl _) _
  clear hX
  have hld := run_loadVar_row (P := Try.prog) X9 _ _ 40 _ _ _ b9 Try.underlying40 rfl (bk_info hpl)
  refine bodyPost_ret (by simp [results, Try.results44, Act.put, asAddr, Result.andThen, hld]; try rfl) rfl ?_
  exact Ret.mk (by rw [HP8.out]) hBX
end Go.Proofs.Ythmjkgpfnpdddaa
