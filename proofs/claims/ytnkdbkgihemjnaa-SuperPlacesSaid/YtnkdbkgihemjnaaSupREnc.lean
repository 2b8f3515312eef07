/- The walks over the reference's Block (bytes, their check, zeros) and Encode. -/
import Derived.Test.YtnkdbkgihemjnaaSupEnc
namespace Go.Proofs.Ytnkdbkgihemjnaa
set_option linter.unusedSimpArgs false
set_option linter.unusedVariables false
open Go.RowKit Go.ChangeShapes Go.WideShapes Go.Sort

theorem own_lit (w : World) (base : Nat) (e : TypeId) (l : List UInt8) (hb : base ≤ w.heap.size) (hl : l.length ≤ maxLen) : (w.alloc (.cells (bvs l).toArray e)).ownsRow base e 1 (.slice (some ⟨w.heap.size, 0, none⟩) l.length l.length) l.length (bvs l) :=
  ⟨by simp [bvs_len], .inr ⟨w.heap.size, l.length, _, rfl, hb, heap_alloc_new _ _, Nat.le_refl _, hl, by rw [List.size_toArray, bvs_len, Nat.mul_one], by simp [bvs_len, List.take_of_length_le]⟩⟩
/-- the cells of an own row, as a copy reads them -/
theorem own_src {w : World} {base : Nat} {e : TypeId} {A : Option Addr} {n c : Nat} {xs : List Value} (h : w.ownsRow base e 1 (.slice A n c) n xs) (h0 : 0 < n) : ∃ ad, A = some ad ∧ ∀ j v, xs[j]? = some v → w.cell? (ad.add j) = some v := by
  rcases h.2 with ⟨_, e⟩ | ⟨g, cap, cur, e, h1, h2, h3, h4, h5, h6⟩
  · omega
  · simp only [Value.slice.injEq] at e
    obtain ⟨rfl, -, rfl⟩ := e
    refine ⟨⟨g, 0, none⟩, rfl, fun j v hj => ?_⟩
    rw [addr_add, Nat.zero_add]
    refine blk_cell h2 ?_
    rw [← h6, List.getElem?_take] at hj
    split at hj
    · simpa using hj
    · cases hj

attribute [-go_sem] Builtin.append_
set_option maxHeartbeats 8000000 in
set_option maxRecDepth 100000 in
theorem rblock_any {l : List UInt8} {A : Option Addr} {B c : Nat} (hl : l.length ≤ 124) (w : World) (hB0 : B ≤ w.heap.size) (hs : Sl w B 1 A l.length (bvs l)) :
    Calls Try.prog 64 #[.slice A l.length c] w (Ret w (.agg (bvs (sealB l)).toArray)) := by
  have hF4 := first4_len l
  obtain ⟨F, hFe⟩ : ∃ r, first4 l = r := ⟨_, rfl⟩
  have hck := fun W h1 h2 => rcheck_any (l := l) (A := A) (B := B) (c := c) (by omega) W h1 h2
  have HS : Hid (sealB l = pad (l ++ F)) := Lib.hid (by unfold sealB; rw [hFe])
  rw [hFe] at hF4 hck
  clear hFe
  go_enter Try.func64, Try.ntmps64
  go_upto_region 2 with (first | (refine wpList_new rfl blkZ rfl ?_) | fail)
  obtain ⟨W, hW⟩ : ∃ W, (w.alloc (.cells (bvs zblk).toArray 40)).alloc (.cells (bvs zblk).toArray 40) = W := ⟨_, rfl⟩
  simp only [hW]
  have b1 : W.heap[w.heap.size]? = some (.cells (bvs zblk).toArray 40) := by rw [← hW]; exact (Below.heap_alloc _ _ _ (by simp)).trans (heap_alloc_new _ _)
  have b2 : W.heap[w.heap.size + 1]? = some (.cells (bvs zblk).toArray 40) := by rw [← hW]; exact heap_alloc_two _ _ _
  have hB : Below w.heap.size w W := by rw [← hW]; exact ((Below.refl _ _).alloc (Nat.le_refl _) _).alloc (by simp) _
  have hz0 : w.heap.size + 1 < W.heap.size := (Array.getElem?_eq_some_iff.1 b2).1
  clear hW
  have hsW := hs.below (hB.mono hB0)
  obtain ⟨W1, hW1⟩ : ∃ W1, (W.alloc (.cells #[] 5)).drew = W1 := ⟨_, rfl⟩
  have hb1 : Below W.heap.size W W1 := by rw [← hW1]; exact ((Below.refl _ _).alloc (Nat.le_refl _) _).drew
  have hrow0 : W1.ownsRow W.heap.size 5 1 (.slice (some ⟨W.heap.size, 0, none⟩) 0 0) 0 [] := by rw [← hW1]; exact (own_none' W W.heap.size 5 1 (Nat.le_refl _)).drew
  have hz1 : W.heap.size ≤ W1.heap.size := hb1.size
  have hs1 := hsW.below (hb1.mono (by omega))
  obtain ⟨A2, c2, W2, hrun, hrow2, hg2, hat2⟩ := run_app (P := Try.prog) W1 (ty := 41) (t := 41) Try.underlying41 elemC hrow0 hs1 (c := c) (oneCell_bvs _) (by simp only [maxLen]; omega) (by omega) (by omega)
  rw [Nat.zero_add, List.nil_append] at hrow2
  rw [Nat.zero_add] at hrun hat2
  have hb2 : Below W.heap.size W W2 := hb1.trans ((Below.refl _ _).grown hg2 (by omega) (fun j hj => by simp [Value.ownBlock] at hj; omega))
  have hs2 := hsW.below (hb2.mono (by omega))
  have hz2 := hb2.size
  have R2 := Lib.hid (And.intro hrow2 (And.intro hb2 hs2))
  clear hs hsW hs1 hb1 hrow0 hg2 hat2 hrow2 hb2
  let S : World → Prop := fun _ => True
  refine wp_region_held (S := S) (by kernel_rfl) ?_
  change wpAnyH _ _ _ _ S _ _ _ W.drew
  have hS0 : S W.drew := trivial
  refine wpAnyH_take (i := 0) (oi := ?oi_14) (v := ?v_14) ?ho_14 ?h1_14 ?h2_14 ?h3_14 ?hq_14 (Or.inl ⟨?hw_14, ?hy_14⟩) ?hs_14 ?rest_14; (case h2_14 => kernel_rfl); (case h3_14 => kernel_rfl); (case ho_14 => (simp only [List.getElem?_toArray, List.getElem?_cons_zero, List.getElem?_cons_succ]; rfl)); (case h1_14 => kernel_rfl); (case hq_14 => exact fun _ _ _ h => h); (case hw_14 => rfl); (case hy_14 => (intro w' hSw; (try simp only [S] at hSw); go_simp; (try with_reducible rfl))); (case hs_14 => assumption); (try simp only [Act.put, List.setIfInBounds_toArray, List.set_cons_zero, List.set_cons_succ])
  refine wpAnyH_take (i := 2) (oi := ?oi_15) (v := ?v_15) ?ho_15 ?h1_15 ?h2_15 ?h3_15 ?hq_15 (Or.inl ⟨?hw_15, ?hy_15⟩) ?hs_15 ?rest_15; (case h2_15 => kernel_rfl); (case h3_15 => kernel_rfl); (case ho_15 => (simp only [List.getElem?_toArray, List.getElem?_cons_zero, List.getElem?_cons_succ]; rfl)); (case h1_15 => kernel_rfl); (case hq_15 => exact fun _ _ _ h => h); (case hw_15 => rfl); (case hy_15 => (intro w' hSw; (try simp only [S] at hSw); go_simp; (try with_reducible rfl))); (case hs_15 => assumption); (try simp only [Act.put, List.setIfInBounds_toArray, List.set_cons_zero, List.set_cons_succ])
  refine wpAnyH_take (i := 4) (oi := ?oi_16) (v := ?v_16) ?ho_16 ?h1_16 ?h2_16 ?h3_16 ?hq_16 (Or.inl ⟨?hw_16, ?hy_16⟩) ?hs_16 ?rest_16; (case h2_16 => kernel_rfl); (case h3_16 => kernel_rfl); (case ho_16 => (simp only [List.getElem?_toArray, List.getElem?_cons_zero, List.getElem?_cons_succ]; rfl)); (case h1_16 => kernel_rfl); (case hq_16 => exact fun _ _ _ h => h); (case hw_16 => rfl); (case hy_16 => (intro w' hSw; (try simp only [S] at hSw); go_simp; (try with_reducible rfl))); (case hs_16 => assumption); (try simp only [Act.put, List.setIfInBounds_toArray, List.set_cons_zero, List.set_cons_succ])
  refine wpAnyH_ready (rs := [1]) (by kernel_rfl) (by simp) (AllReadyH.cons (o := ?oo1_23) ?hoo1_23 (fun K hK => ?steponly23) AllReadyH.nil); (case hoo1_23 => (simp only [List.getElem?_toArray, List.getElem?_cons_zero, List.getElem?_cons_succ]; rfl))
  go_simp
  refine hK.out _ _ trivial (fun _ => ?_)
  clear hK K
  (try simp only [Act.put, List.setIfInBounds_toArray, List.set_cons_zero, List.set_cons_succ])
  refine wpAnyH_ready (rs := [3]) (by kernel_rfl) (by simp) (AllReadyH.cons (o := ?oo3_24) ?hoo3_24 (fun K hK => ?steponly24) AllReadyH.nil); (case hoo3_24 => (simp only [List.getElem?_toArray, List.getElem?_cons_zero, List.getElem?_cons_succ]; rfl))
  go_simp
  refine hK.out _ _ trivial (fun _ => ?_)
  clear hK K hrun hW1
  (try simp only [Act.put, List.setIfInBounds_toArray, List.set_cons_zero, List.set_cons_succ])
  refine wpAnyH_ready (rs := [5]) (by kernel_rfl) (by simp) (AllReadyH.cons (o := ?oo5_25) ?hoo5_25 (fun K hK => ?steponly25) AllReadyH.nil); (case hoo5_25 => (simp only [List.getElem?_toArray, List.getElem?_cons_zero, List.getElem?_cons_succ]; rfl))
  go_simp
  refine Calls.mono (hck _ (by omega) R2.out.2.2) ?_
  rintro e W3 ⟨A3, c3, rfl, hown3, hb3⟩
  refine hK.out _ _ trivial (fun _ => ?_)
  clear hK K hck
  (try simp only [Act.put, List.setIfInBounds_toArray, List.set_cons_zero, List.set_cons_succ])
  have hrowl := own_below R2.out.1 hb3
  have hz3 := hb3.size
  obtain ⟨A4, c4, W4, hrun, hrow4, hg4, hat4⟩ := run_app (P := Try.prog) W3 (ty := 41) (t := 41) Try.underlying41 elemC hrowl (Sl.of_own hown3) (c := c3) (oneCell_bvs _) (by simp only [maxLen]; omega) (by omega) (by omega)
  have hgeO : ∀ k, (Value.slice A2 l.length c2).ownBlock = some k → W.heap.size ≤ k := fun k hk => (hrowl.lt k hk).1
  have b24 : W4.heap[w.heap.size + 1]? = some (.cells (bvs zblk).toArray 40) := (hg4.block _ (by omega) (fun e => by have := hgeO _ e.symm; omega)).trans (bBlk hb3 (by omega) (bBlk R2.out.2.1 hz0 b2))
  have b14 : W4.heap[w.heap.size]? = some (.cells (bvs zblk).toArray 40) := (hg4.block _ (by omega) (fun e => by have := hgeO _ e.symm; omega)).trans (bBlk hb3 (by omega) (bBlk R2.out.2.1 (by omega) b1))
  have hB4 : Below w.heap.size w W4 := (hB.trans (R2.out.2.1.mono (by omega))).trans ((hb3.mono (by omega)).trans ((Below.refl _ _).grown hg4 (by omega) (fun j hj => by have := hgeO _ hj; omega)))
  rw [← bvs_append] at hrow4
  obtain ⟨ad, hA4, hcp⟩ := own_src hrow4 (by omega)
  rw [hA4] at hrun
  have hnl : (bvs (l ++ F)).length = l.length + 4 := by rw [bvs_len, List.length_append, hF4]
  have hcopy := fun ty => run_copy_cells (P := Try.prog) W4 41 41 ty 5 (w.heap.size + 1) 0 128 128 ad (l.length + 4) c4 (bvs (l ++ F)) Try.underlying41 (by kernel_rfl) (by rw [hnl]; exact (Nat.min_eq_left (by omega)).symm) hcp
    (fun j hj => ((there_blk b24 (o := 0) (n := l.length + 4) (by rw [List.size_toArray, bvs_len, zblk_len]; omega)) j (by omega)).1) (fun j hj => blk_frozen b24 _) (oneCell_bvs _)
  rw [hnl] at hcopy
  obtain ⟨W8, hW8⟩ : ∃ X, W4.setCells (w.heap.size + 1) 0 (bvs (l ++ F)) = X := ⟨_, rfl⟩
  have hpl : (pad (l ++ F)).length = 128 := pad_len (by rw [List.length_append, hF4]; omega)
  have b8 : W8.heap[w.heap.size + 1]? = some (.cells (bvs (pad (l ++ F))).toArray 40) := by
    rw [← hW8]
    have := blk_sets (bvs (l ++ F)) 0 b24
    rw [pad_cells (by rw [List.length_append, hF4]; omega)] at this
    exact this
  have b18 : W8.heap[w.heap.size]? = some (.cells (bvs zblk).toArray 40) := by rw [← hW8]; exact (sets_far _ _ _ _ _ (by omega)).trans b14
  have hB8 : Below w.heap.size w W8 := by
    rw [← hW8]
    exact hB4.trans ((but_sets (X := fun k => k = w.heap.size + 1) _ _ _ (But.refl _ _ _) rfl).below (by have := hB4.size; omega) (fun k e => by omega))
  simp only [hW8] at hcopy
  obtain ⟨P8, hP8⟩ : ∃ r, pad (l ++ F) = r := ⟨_, rfl⟩
  rw [hP8] at b8 hpl HS
  have R := Lib.hid (And.intro b8 (And.intro b18 hB8))
  clear hP8 hW8 b8 b18 hB8 b24 b14 hB4 hcp hnl hrow4 hg4 hat4 hgeO hrowl hown3 hb3 R2 b1 b2 hB hA4
  refine wpAnyH_ready (rs := [6]) (by kernel_rfl) (by simp) (AllReadyH.cons (o := ?oo6_26) ?hoo6_26 (fun K hK => ?steponly26) AllReadyH.nil); (case hoo6_26 => (simp only [List.getElem?_toArray, List.getElem?_cons_zero, List.getElem?_cons_succ]; rfl))
  go_simp
  refine hK.out _ _ trivial (fun _ => ?_)
  clear hK K hrun
  (try simp only [Act.put, List.setIfInBounds_toArray, List.set_cons_zero, List.set_cons_succ])
  refine wpAnyH_ready (rs := [7]) (by kernel_rfl) (by simp) (AllReadyH.cons (o := ?oo7_27) ?hoo7_27 (fun K hK => ?steponly27) AllReadyH.nil); (case hoo7_27 => (simp only [List.getElem?_toArray, List.getElem?_cons_zero, List.getElem?_cons_succ]; rfl))
  go_simp
  refine hK.out _ _ trivial (fun _ => ?_)
  clear hK K hcopy
  (try simp only [Act.put, List.setIfInBounds_toArray, List.set_cons_zero, List.set_cons_succ])
  refine wpAnyH_done (by kernel_rfl) ?_ _
  go_upto_region 3 with (fail)
  refine wp_region_lit ?_
  refine wpList_load_row rfl 40 (.tmp 3) rfl _ rfl _ (bvs P8).toArray (0, 0) _ R.out.1 Try.underlying40 rfl (bk_info hpl) ?_
  (try simp only [Act.put, List.setIfInBounds_toArray, List.set_cons_zero, List.set_cons_succ])
  refine wpList_store_row rfl 40 (.tmp 2) (.tmp 12) rfl _ (bvs P8).toArray rfl rfl _ (bvs zblk).toArray R.out.2.1 (bk_info hpl) (blk_sizes zblk_len hpl) (all_oneCell_toArray (oneCell_bvs _)) ?_
  (try simp only [Act.put, List.setIfInBounds_toArray, List.set_cons_zero, List.set_cons_succ])
  go_wp2_with fail
  generalize hX : World.setRow _ _ _ = X9
  have b9 : X9.heap[w.heap.size]? = some (.cells (bvs P8).toArray 40) := by rw [← hX]; exact setRow_heap _ _ _ _ _ _ R.out.2.1
  have hBX : Below w.heap.size w X9 := by rw [← hX]; exact bSetRow R.out.2.2 (Nat.le_refl _) _
  clear hX
  have hld := run_loadVar_row (P := Try.prog) X9 _ _ 40 _ _ _ b9 Try.underlying40 rfl (bk_info hpl)
  refine bodyPost_ret (by simp [results, Try.results64, Act.put, asAddr, Result.andThen, hld]; try rfl) rfl ?_
  exact Ret.mk (by rw [HS.out]) hBX
set_option maxHeartbeats 8000000 in
set_option maxRecDepth 100000 in
theorem rencode_any {s : SP} (hs : s.Ok) (w : World) : Calls Try.prog 46 #[spv s] w (Ret w (.tuple #[bkv s.enc, .int .i64 s.encE])) := by
  have hgood := fun W => rgood_any hs W
  unfold spv at hgood
  unfold spv bkv
  have hci := sp_info hs
  obtain ⟨cs, hcs⟩ : ∃ cs, s.cells.toArray = cs := ⟨_, rfl⟩
  rw [hcs] at hgood hci ⊢
  go_enter Try.func46, Try.ntmps46
  go_upto_region 1 with (first | (refine wpList_new rfl blkZ rfl ?_) | fail)
  obtain ⟨W, hW⟩ : ∃ W, (w.alloc (.cells cs 38)).alloc (.cells (bvs zblk).toArray 40) = W := ⟨_, rfl⟩
  simp only [hW]
  have b1 : W.heap[w.heap.size]? = some (.cells cs 38) := by rw [← hW]; exact (Below.heap_alloc _ _ _ (by simp)).trans (heap_alloc_new _ _)
  have b2 : W.heap[w.heap.size + 1]? = some (.cells (bvs zblk).toArray 40) := by rw [← hW]; exact heap_alloc_two _ _ _
  have hB : Below w.heap.size w W := by rw [← hW]; exact ((Below.refl _ _).alloc (Nat.le_refl _) _).alloc (by simp) _
  clear hW
  refine wp_region_lit ?_
  refine wpList_load_row rfl 38 (.tmp 1) rfl _ rfl _ cs (0, 0) _ b1 Try.underlying38 rfl hci ?_
  (try simp only [Act.put, List.setIfInBounds_toArray, List.set_cons_zero, List.set_cons_succ])
  go_wp2_with fail
  refine (hgood _).mono ?_
  rintro e W1 ⟨rfl, hb1⟩
  have hz0 := (Array.getElem?_eq_some_iff.1 b2).1
  have hz1 := hb1.size
  have hB1 := hB.trans (hb1.mono hB.size)
  replace b1 := bBlk hb1 (by omega) b1
  replace b2 := bBlk hb1 hz0 b2
  have hat : SpAt W1 w.heap.size s := .of hs (by rw [hcs]; exact b1)
  clear hgood hb1 hB
  obtain ⟨t, ht⟩ : ∃ t, s.good = t := ⟨_, rfl⟩
  have HE : Hid (s.enc = if t then sealB s.bytes else zblk) := Lib.hid (by unfold SP.enc; rw [ht])
  have HF : Hid (s.encE = if t then 0 else 11) := Lib.hid (by unfold SP.encE; rw [ht])
  rw [ht]
  clear ht
  cases t
  · clear hat b1 hcs hci hs
    go_wp2_with (first
      | (refine wpList_built rfl 40 _ rfl built_blk0 ?_)
      | (refine wpList_store_row rfl 40 (.tmp 2) (.tmp 8) rfl _ (bvs zblk).toArray rfl rfl _ (bvs zblk).toArray b2 (bk_info zblk_len) rfl (all_oneCell_toArray (oneCell_bvs _)) ?_)
      | fail)
    generalize hX : World.setRow _ _ _ = X9
    have b9 : X9.heap[w.heap.size + 1]? = some (.cells (bvs zblk).toArray 40) := by rw [← hX]; exact setRow_heap _ _ _ _ _ _ b2
    have hBX : Below w.heap.size w X9 := by rw [← hX]; exact bSetRow hB1 (by omega) _
    clear hX
    have hld := run_loadVar_row (P := Try.prog) X9 _ _ 40 _ _ _ b9 Try.underlying40 rfl (bk_info zblk_len)
    refine bodyPost_ret (by simp [results, Try.results46, Act.put, asAddr, Result.andThen, hld]; try rfl) rfl ?_
    exact Ret.mk (by rw [HE.out, HF.out]; rfl) hBX
  · obtain ⟨-, c0, c1, c2, hlog, hused⟩ := hat
    go_upto_region 4 with (fail)
    clear c0 c1 c2 hci
    obtain ⟨Wa, hWa⟩ : ∃ X, W1.alloc (.cells (bvs (head7 s)).toArray 5) = X := ⟨_, rfl⟩
    rw [show #[Value.int IntKind.u8 83, Value.int IntKind.u8 ((s.gen : Int) / 16777216 % 256), Value.int IntKind.u8 ((s.gen : Int) / 65536 % 256), Value.int IntKind.u8 ((s.gen : Int) / 256 % 256), Value.int IntKind.u8 ((s.gen : Int) % 256), Value.int IntKind.u8 (s.blocks % 256), Value.int IntKind.u8 (s.root % 256)] = (bvs (head7 s)).toArray from (head7_cells s).symm, hWa]
    have hbA : Below W1.heap.size W1 Wa := by rw [← hWa]; exact (Below.refl _ _).alloc (Nat.le_refl _) _
    have bH : Wa.heap[W1.heap.size]? = some (.cells (bvs (head7 s)).toArray 5) := by rw [← hWa]; exact heap_alloc_new _ _
    have hzA : W1.heap.size < Wa.heap.size := by rw [← hWa]; simp
    have hBA := hB1.trans (hbA.mono hB1.size)
    have hw1 : w.heap.size < W1.heap.size := by have := hB1.size; omega
    replace hlog := bRange hbA hw1 hlog
    replace hused := bRange hbA hw1 hused
    replace b2 := bBlk hbA (by omega) b2
    clear hWa hbA b1 hB1
    have hll := hs.log
    have hul := hs.used
    have hb55 := hs.bytes
    have h7 : (head7 s).length = 7 := rfl
    obtain ⟨Wd, hWd⟩ : ∃ X, Wa.drew = X := ⟨_, rfl⟩
    have hown0 : Wd.ownsRow W1.heap.size 5 1 (.slice (some ⟨W1.heap.size, 0, none⟩) 7 7) 7 (bvs (head7 s)) := by
      rw [← hWd]
      exact ⟨by simp [bvs_len, h7], .inr ⟨W1.heap.size, 7, _, rfl, Nat.le_refl _, bH, Nat.le_refl _, by simp [maxLen], by rw [List.size_toArray, bvs_len, h7], by simp [bvs_len, h7, List.take_of_length_le]⟩⟩
    have hzd : Wd.heap.size = Wa.heap.size := by rw [← hWd]; rfl
    have hBd : Below w.heap.size w Wd := by rw [← hWd]; exact hBA.drew
    have hs3 : Sl Wd Wd.heap.size 1 (some ⟨w.heap.size, 3, none⟩) 32 (bvs s.log) := ⟨by simp [bvs_len, hll], fun _ => ⟨w.heap.size, 3, rfl, by omega, by rw [← hWd]; exact hlog⟩⟩
    have hs35 : Sl Wd W1.heap.size 1 (some ⟨w.heap.size, 35, none⟩) 16 (bvs s.used) := ⟨by simp [bvs_len, hul], fun _ => ⟨w.heap.size, 35, rfl, by omega, by rw [← hWd]; exact hused⟩⟩
    have b2d : Wd.heap[w.heap.size + 1]? = some (.cells (bvs zblk).toArray 40) := by rw [← hWd]; exact b2
    obtain ⟨A3, c3, Wb, hrun, hrow3, hg3, hat3⟩ := run_app (P := Try.prog) Wd (ty := 41) (t := 41) Try.underlying41 elemC hown0 hs3 (c := 32) (oneCell_bvs _) (by simp only [maxLen]; omega) (by omega) (by omega)
    have hb3 : Below W1.heap.size Wd Wb := (Below.refl _ _).grown hg3 (by omega) (fun j hj => by simp [Value.ownBlock] at hj; omega)
    have hz3 : Wd.heap.size ≤ Wb.heap.size := hg3.size
    have hs35b := hs35.below hb3
    rw [← bvs_append] at hrow3
    obtain ⟨A6, c6, Wc, hrun6, hrow6, hg6, hat6⟩ := run_app (P := Try.prog) Wb (ty := 41) (t := 41) Try.underlying41 elemC hrow3 hs35b (c := 16) (oneCell_bvs _) (by simp only [maxLen]; omega) (by omega) (by omega)
    have hgeO : ∀ k, (Value.slice A3 (7 + 32) c3).ownBlock = some k → W1.heap.size ≤ k := fun k hk => (hrow3.lt k hk).1
    have hb6 : Below W1.heap.size Wd Wc := hb3.trans ((Below.refl _ _).grown hg6 (by omega) (fun j hj => hgeO j hj))
    have hz6 : Wb.heap.size ≤ Wc.heap.size := hg6.size
    rw [← bvs_append, ← bytes_eq] at hrow6
    have b26 := bBlk hb6 (by omega) b2d
    have hB6 : Below w.heap.size w Wc := hBd.trans (hb6.mono (by omega))
    have hbk := rblock_any (l := s.bytes) (A := A6) (B := Wc.heap.size) (c := c6) (by omega) Wc (Nat.le_refl _) (by have := Sl.of_own hrow6; rw [hb55]; exact this)
    rw [hb55] at hbk
    have hsl : (sealB s.bytes).length = 128 := sealB_len (by omega)
    obtain ⟨P8, hP8⟩ : ∃ r, sealB s.bytes = r := ⟨_, rfl⟩
    rw [hP8] at hbk hsl HE
    have R := Lib.hid (And.intro b26 hB6)
    clear hP8 b26 hB6 hb6 hs35b hs3 hs35 hown0 hrow3 hrow6 hg3 hg6 hat3 hat6 hgeO hb3 hBd b2d hb55 hll hul h7 hlog hused bH hs hcs b2 hBA
    let S : World → Prop := fun _ => True
    refine wp_region_held (S := S) (by kernel_rfl) ?_
    change wpAnyH _ _ _ _ S _ _ _ Wa.drew
    rw [hWd]
    have hS0 : S Wd := trivial
    refine wpAnyH_take (i := 0) (oi := ?oi_17) (v := ?v_17) ?ho_17 ?h1_17 ?h2_17 ?h3_17 ?hq_17 (Or.inl ⟨?hw_17, ?hy_17⟩) ?hs_17 ?rest_17; (case h2_17 => kernel_rfl); (case h3_17 => kernel_rfl); (case ho_17 => (simp only [List.getElem?_toArray, List.getElem?_cons_zero, List.getElem?_cons_succ]; rfl)); (case h1_17 => kernel_rfl); (case hq_17 => exact fun _ _ _ h => h); (case hw_17 => rfl); (case hy_17 => (intro w' hSw; (try simp only [S] at hSw); go_simp; (try with_reducible rfl))); (case hs_17 => assumption); (try simp only [Act.put, List.setIfInBounds_toArray, List.set_cons_zero, List.set_cons_succ])
    refine wpAnyH_take (i := 1) (oi := ?oi_18) (v := ?v_18) ?ho_18 ?h1_18 ?h2_18 ?h3_18 ?hq_18 (Or.inl ⟨?hw_18, ?hy_18⟩) ?hs_18 ?rest_18; (case h2_18 => kernel_rfl); (case h3_18 => kernel_rfl); (case ho_18 => (simp only [List.getElem?_toArray, List.getElem?_cons_zero, List.getElem?_cons_succ]; rfl)); (case h1_18 => kernel_rfl); (case hq_18 => exact fun _ _ _ h => h); (case hw_18 => rfl); (case hy_18 => (intro w' hSw; (try simp only [S] at hSw); go_simp; (try with_reducible rfl))); (case hs_18 => assumption); (try simp only [Act.put, List.setIfInBounds_toArray, List.set_cons_zero, List.set_cons_succ])
    refine wpAnyH_take (i := 2) (oi := ?oi_19) (v := ?v_19) ?ho_19 ?h1_19 ?h2_19 ?h3_19 ?hq_19 (Or.inl ⟨?hw_19, ?hy_19⟩) ?hs_19 ?rest_19; (case h2_19 => kernel_rfl); (case h3_19 => kernel_rfl); (case ho_19 => (simp only [List.getElem?_toArray, List.getElem?_cons_zero, List.getElem?_cons_succ]; rfl)); (case h1_19 => kernel_rfl); (case hq_19 => exact fun _ _ _ h => h); (case hw_19 => rfl); (case hy_19 => (intro w' hSw; (try simp only [S] at hSw); go_simp; (try with_reducible rfl))); (case hs_19 => assumption); (try simp only [Act.put, List.setIfInBounds_toArray, List.set_cons_zero, List.set_cons_succ])
    refine wpAnyH_take (i := 4) (oi := ?oi_20) (v := ?v_20) ?ho_20 ?h1_20 ?h2_20 ?h3_20 ?hq_20 (Or.inl ⟨?hw_20, ?hy_20⟩) ?hs_20 ?rest_20; (case h2_20 => kernel_rfl); (case h3_20 => kernel_rfl); (case ho_20 => (simp only [List.getElem?_toArray, List.getElem?_cons_zero, List.getElem?_cons_succ]; rfl)); (case h1_20 => kernel_rfl); (case hq_20 => exact fun _ _ _ h => h); (case hw_20 => rfl); (case hy_20 => (intro w' hSw; (try simp only [S] at hSw); go_simp; (try with_reducible rfl))); (case hs_20 => assumption); (try simp only [Act.put, List.setIfInBounds_toArray, List.set_cons_zero, List.set_cons_succ])
    refine wpAnyH_take (i := 5) (oi := ?oi_21) (v := ?v_21) ?ho_21 ?h1_21 ?h2_21 ?h3_21 ?hq_21 (Or.inl ⟨?hw_21, ?hy_21⟩) ?hs_21 ?rest_21; (case h2_21 => kernel_rfl); (case h3_21 => kernel_rfl); (case ho_21 => (simp only [List.getElem?_toArray, List.getElem?_cons_zero, List.getElem?_cons_succ]; rfl)); (case h1_21 => kernel_rfl); (case hq_21 => exact fun _ _ _ h => h); (case hw_21 => rfl); (case hy_21 => (intro w' hSw; (try simp only [S] at hSw); go_simp; (try with_reducible rfl))); (case hs_21 => assumption); (try simp only [Act.put, List.setIfInBounds_toArray, List.set_cons_zero, List.set_cons_succ])
    refine wpAnyH_ready (rs := [3]) (by kernel_rfl) (by simp) (AllReadyH.cons (o := ?oo3_28) ?hoo3_28 (fun K hK => ?steponly28) AllReadyH.nil); (case hoo3_28 => (simp only [List.getElem?_toArray, List.getElem?_cons_zero, List.getElem?_cons_succ]; rfl))
    go_simp
    refine hK.out _ _ trivial (fun _ => ?_)
    clear hK K hrun
    (try simp only [Act.put, List.setIfInBounds_toArray, List.set_cons_zero, List.set_cons_succ])
    refine wpAnyH_ready (rs := [6]) (by kernel_rfl) (by simp) (AllReadyH.cons (o := ?oo6_29) ?hoo6_29 (fun K hK => ?steponly29) AllReadyH.nil); (case hoo6_29 => (simp only [List.getElem?_toArray, List.getElem?_cons_zero, List.getElem?_cons_succ]; rfl))
    go_simp
    refine hK.out _ _ trivial (fun _ => ?_)
    clear hK K hrun6
    (try simp only [Act.put, List.setIfInBounds_toArray, List.set_cons_zero, List.set_cons_succ])
    refine wpAnyH_ready (rs := [7]) (by kernel_rfl) (by simp) (AllReadyH.cons (o := ?oo7_30) ?hoo7_30 (fun K hK => ?steponly30) AllReadyH.nil); (case hoo7_30 => (simp only [List.getElem?_toArray, List.getElem?_cons_zero, List.getElem?_cons_succ]; rfl))
    go_simp
    refine Calls.mono hbk ?_
    rintro e W7 ⟨rfl, hb7⟩
    have b27 := bBlk hb7 (by omega) R.out.1
    have hB7 := R.out.2.trans (hb7.mono (by have := R.out.2.size; omega))
    refine hK.out _ _ trivial (fun _ => ?_)
    clear hK K hbk
    (try simp only [Act.put, List.setIfInBounds_toArray, List.set_cons_zero, List.set_cons_succ])
    refine wpAnyH_ready (rs := [8]) (by kernel_rfl) (by simp) (AllReadyH.cons (o := ?oo8_31) ?hoo8_31 (fun K hK => ?steponly31) AllReadyH.nil); (case hoo8_31 => (simp only [List.getElem?_toArray, List.getElem?_cons_zero, List.getElem?_cons_succ]; rfl))
    refine step_store_row rfl 40 (.tmp 2) (.tmp 38) rfl _ (bvs P8).toArray rfl rfl _ (bvs zblk).toArray b27 (bk_info hsl) (blk_sizes zblk_len hsl) (all_oneCell_toArray (oneCell_bvs _)) ?_
    refine hK.out _ _ trivial (fun _ => ?_)
    clear hK K
    (try simp only [Act.put, List.setIfInBounds_toArray, List.set_cons_zero, List.set_cons_succ])
    refine wpAnyH_take (i := 9) (oi := ?oi_22) (v := ?v_22) ?ho_22 ?h1_22 ?h2_22 ?h3_22 ?hq_22 (Or.inl ⟨?hw_22, ?hy_22⟩) ?hs_22 ?rest_22; (case h2_22 => kernel_rfl); (case h3_22 => kernel_rfl); (case ho_22 => (simp only [List.getElem?_toArray, List.getElem?_cons_zero, List.getElem?_cons_succ]; rfl)); (case h1_22 => kernel_rfl); (case hq_22 => exact fun _ _ _ h => h); (case hw_22 => rfl); (case hy_22 => (intro w' hSw; (try simp only [S] at hSw); go_simp; (try with_reducible rfl))); (case hs_22 => assumption); (try simp only [Act.put, List.setIfInBounds_toArray, List.set_cons_zero, List.set_cons_succ])
    refine wpAnyH_done (by kernel_rfl) ?_ _
    go_wp2_with fail
    generalize hX : World.setRow _ _ _ = X9
    have b9 : X9.heap[w.heap.size + 1]? = some (.cells (bvs P8).toArray 40) := by rw [← hX]; exact setRow_heap _ _ _ _ _ _ b27
    have hBX : Below w.heap.size w X9 := by rw [← hX]; exact bSetRow hB7 (by omega) _
    clear hX
    have hld := run_loadVar_row (P := Try.prog) X9 _ _ 40 _ _ _ b9 Try.underlying40 rfl (bk_info hsl)
    refine bodyPost_ret (by simp [results, Try.results46, Act.put, asAddr, Result.andThen, hld]; try rfl) rfl ?_
    exact Ret.mk (by rw [HE.out, HF.out]; simp only [if_true]) hBX
end Go.Proofs.Ytnkdbkgihemjnaa
