/- The walk over SuperPlaces. -/
import Derived.Test.YtnkdbkgihemjnaaSupArg
namespace Go.Proofs.Ytnkdbkgihemjnaa
set_option linter.unusedSimpArgs false
set_option linter.unusedVariables false
open Go.RowKit Go.ChangeShapes Go.WideShapes Go.Sort

set_option maxHeartbeats 16000000 in
set_option maxRecDepth 100000 in
theorem superPlaces_no {s : SP} (hs : s.Ok) (hg : s.good = false) (w : World) : Calls Try.prog 12 #[spv s] w (Ret w (.bool true)) := by
  have hgd := fun W => good_any hs W
  have hen := fun W => encode_any hs W
  have e1 : s.enc = zblk := by unfold SP.enc; rw [hg]; rfl
  have e2 : s.encE = 11 := by unfold SP.encE; rw [hg]; rfl
  rw [hg] at hgd
  rw [e1, e2] at hen
  unfold spv at hgd hen
  unfold bkv at hen
  unfold spv
  have i2 := sp_info hs
  have hsame := fun w => bk_same zblk_len w
  obtain ⟨cs, hcs⟩ : ∃ cs, s.cells.toArray = cs := ⟨_, rfl⟩
  rw [hcs] at i2 hgd hen
  rw [hcs]
  clear hcs hg e1 e2
  go_enter Try.func12, Try.ntmps12
  go_upto_region 1 with (fail)
  obtain ⟨W, hW⟩ : ∃ W, w.alloc (.cells cs 38) = W := ⟨_, rfl⟩
  try rw [hW]
  have a1 : W.heap[w.heap.size]? = some (.cells cs 38) := by rw [← hW]; exact heap_alloc_new _ _
  have hB : Below w.heap.size w W := by rw [← hW]; exact (Below.refl _ _).alloc (Nat.le_refl _) _
  clear hW
  refine wp_region_lit ?_
  refine wpList_load_row rfl 38 (.tmp 1) rfl _ rfl _ cs (0, 0) _ a1 Try.underlying38 rfl i2 ?_
  (try simp only [Act.put, List.setIfInBounds_toArray, List.set_cons_zero, List.set_cons_succ])
  go_wp2_with fail
  refine Calls.mono (hen _) ?_
  rintro e W1 ⟨rfl, hb1⟩
  obtain ⟨Y, hY, y3, bY⟩ := newRow W1 (bvs zblk).toArray (bvs zblk).toArray 40
  have hb2 := hb1.trans (bY.mono hb1.size)
  have a2 := bBlk hb2 (Array.getElem?_eq_some_iff.1 a1).1 a1
  have hB2 := hB.trans (hb2.mono hB.size)
  clear a1 hB hb1 bY hen hb2
  go_upto_region 3 with (first
    | (refine wpList_new rfl blkZ rfl ?_)
    | (refine wpList_store_row rfl 40 (.tmp 3) (.tmp 11) rfl _ (bvs zblk).toArray rfl rfl _ (bvs zblk).toArray (heap_alloc_new _ _) (bk_info zblk_len) rfl (all_oneCell_toArray (oneCell_bvs _)) ?_; (try rw [hY]))
    | fail)
  go_wp2_with (first
    | (refine wpList_load_row rfl 40 (.tmp 3) rfl _ rfl _ (bvs zblk).toArray (0, 0) _ y3 Try.underlying40 rfl (bk_info zblk_len) ?_)
    | (refine wpList_built rfl 40 #[] rfl (cs := (bvs zblk).toArray) (by simp only [List.map_toArray, List.map_nil]; exact built_blk0) ?_)
    | (refine wpList_load_row_g (by simp [Region.wanted, yielded, Act.put]) 38 (.tmp 1) rfl _ rfl _ cs (0, 0) _ a2 Try.underlying38 rfl i2 ?_)
    | (go_at_call 49; refine Calls.mono (hgd _) ?_; rintro e W2 ⟨rfl, hb2⟩)
    | (go_at_call 16; refine Calls.mono (wakes07_any _) ?_; rintro e W3 ⟨rfl, hb3⟩)
    | fail)
  go_ret
  exact Ret.mk rfl (hB2.trans ((hb2.trans (hb3.mono hb2.size)).mono hB2.size))

/-! ### the bytes at their places -/
theorem enc_at {s : SP} (h : s.Ok) (hg : s.good = true) :
    (s.enc.take 55 = s.bytes ∧ (s.enc.drop 7).take 32 = s.log ∧ (s.enc.drop 39).take 16 = s.used ∧ (s.enc.drop 55).take 4 = first4 s.bytes) ∧
    s.enc[0]? = some 83 ∧ (∀ i, i < 4 → s.enc[1 + i]? = some (u8 ((s.gen : Int) / 2 ^ (24 - 8 * i)))) ∧ s.enc[5]? = some (u8 s.blocks) ∧ s.enc[6]? = some (u8 s.root) ∧ (∀ i, 59 ≤ i → i < 128 → s.enc[i]? = some 0) := by
  obtain ⟨r, he, hr, h4, hz⟩ := enc_form h hg
  have hl := h.log
  have hu := h.used
  have hd : (hd7 s).length = 7 := rfl
  have hb : s.bytes = hd7 s ++ (s.log ++ s.used) := by unfold SP.bytes; rw [List.append_assoc]; rfl
  have hbl := h.bytes
  have e2 : s.enc = s.bytes ++ r := by rw [he, hb]; simp only [List.append_assoc]
  refine ⟨⟨?_, ?_, ?_, ?_⟩, ?_, ?_, ?_, ?_, ?_⟩
  · rw [e2, ← hbl, List.take_left]
  · rw [he, ← hd, List.drop_left, ← hl, List.take_left]
  · rw [he, show (39 : Nat) = 7 + 32 from rfl, ← List.drop_drop]
    rw [← hd, List.drop_left, ← hl, List.drop_left, ← hu, List.take_left]
  · rw [e2, ← hbl, List.drop_left, h4]
  · rw [he]; rfl
  · intro i hi
    rw [he]
    match i, hi with
    | 0, _ | 1, _ | 2, _ => rfl
    | 3, _ => simp [hd7]
  · rw [he]; rfl
  · rw [he]; rfl
  · intro i h1 h2
    rw [e2, List.getElem?_append_right (by omega), hbl]
    have : r[i - 55]? = (r.drop 4)[i - 59]? := by rw [List.getElem?_drop]; congr 1; omega
    rw [this, hz, List.getElem?_replicate, if_pos (by omega)]

theorem cell_of {W : World} {b : Nat} {E : Blk} {t : TypeId} (h : W.heap[b]? = some (.cells (bvs E).toArray t)) {i : Nat} {x : UInt8} (hx : E[i]? = some x) : W.cell? ⟨b, i, none⟩ = some (.int .u8 (x.toNat : Int)) := blk_cell h (bvs_get hx)
theorem sl_of {W : World} {b o n : Nat} {E M : List UInt8} {t : TypeId} (h : W.heap[b]? = some (.cells (bvs E).toArray t)) (hM : (E.drop o).take n = M) (hn : M.length = n) : Sl W W.heap.size 1 (some ⟨b, o, none⟩) n (bvs M) := by
  refine ⟨by rw [bvs_len, hn, Nat.mul_one], fun _ => ⟨b, o, rfl, (Array.getElem?_eq_some_iff.1 h).1, ?_⟩⟩
  have r0 : W.rangeAt b 0 (bvs E) := fun j v hj => by rw [Nat.zero_add]; exact blk_cell h (by simpa using hj)
  have := range_cut r0 o n
  rw [Nat.zero_add, show ((bvs E).drop o).take n = bvs ((E.drop o).take n) from by simp [bvs, List.map_take, List.map_drop], hM] at this
  exact this
theorem sl_sp {W : World} {b : Nat} {s : SP} {cs : Array Value} (hs : s.Ok) (hc : s.cells.toArray = cs) (h : W.heap[b]? = some (.cells cs 38)) :
    Sl W W.heap.size 1 (some ⟨b, 3, none⟩) 32 (bvs s.log) ∧ Sl W W.heap.size 1 (some ⟨b, 35, none⟩) 16 (bvs s.used) := by
  have hlt := (Array.getElem?_eq_some_iff.1 h).1
  obtain ⟨-, -, -, -, hlog, hused⟩ := SpAt.of (w := W) (g := b) hs (by rw [hc]; exact h)
  exact ⟨⟨by rw [bvs_len, hs.log], fun _ => ⟨b, 3, rfl, hlt, hlog⟩⟩, ⟨by rw [bvs_len, hs.used], fun _ => ⟨b, 35, rfl, hlt, hused⟩⟩⟩
theorem bytes_eqT {A B : Option Addr} {n m c c' BA BB : Nat} {xs : List UInt8} (w : World) (h1 : Sl w BA 1 A n (bvs xs)) (h2 : Sl w BB 1 B m (bvs xs)) :
    Calls Try.prog 44 #[.slice A n c, .slice B m c'] w fun e w' => e = .returned (.bool true) ∧ w = w' :=
  (bytes_any A B n m c c' BA BB xs xs w h1 h2).mono fun e w' ⟨h, k⟩ => ⟨by rw [h, decide_eq_true rfl], k⟩

set_option maxHeartbeats 16000000 in
set_option maxRecDepth 100000 in
theorem superPlaces_yes {s : SP} (hs : s.Ok) (hg : s.good = true) (w : World) : Calls Try.prog 12 #[spv s] w (Ret w (.bool true)) := by
  have hen := fun W => encode_any hs W
  have e2 : s.encE = 0 := by unfold SP.encE; rw [hg]; rfl
  rw [e2] at hen
  have hEl : s.enc.length = 128 := hs.enc
  obtain ⟨⟨q1, q2, q3, q4⟩, q5, q6, q7, q8, q9⟩ := enc_at hs hg
  obtain ⟨n1, n2, n3, n4, n5⟩ := good_nums hg
  have hbl := hs.bytes
  have hck := fun A B c W h1 h2 => check_any (l := s.bytes) (A := A) (B := B) (c := c) (by omega) W h1 h2
  have hF4 := first4_len s.bytes
  have i2 := sp_info hs
  unfold spv at hen
  unfold bkv at hen
  unfold spv
  obtain ⟨E, hE⟩ : ∃ E, s.enc = E := ⟨_, rfl⟩
  obtain ⟨F, hF⟩ : ∃ l, first4 s.bytes = l := ⟨_, rfl⟩
  obtain ⟨cs, hcs⟩ : ∃ cs, s.cells.toArray = cs := ⟨_, rfl⟩
  rw [hE] at hen hEl q1 q2 q3 q4 q5 q6 q7 q8 q9
  rw [hF] at q4 hck hF4
  rw [hbl] at hck
  rw [hcs] at i2 hen
  rw [hcs]
  clear hE hF e2
  have HQ := Lib.hid (And.intro q1 (And.intro q2 (And.intro q3 q4)))
  have HR := Lib.hid (And.intro q5 (And.intro q6 (And.intro q7 (And.intro q8 q9))))
  have HC := Lib.hid hcs
  clear q1 q2 q3 q4 q5 q6 q7 q8 q9 hcs
  obtain ⟨y4, hy⟩ : ∃ z, zs 4 = z := ⟨_, rfl⟩
  have hyl : y4.length = 4 := by rw [← hy]; rfl
  have hyZ := d4Z
  rw [hy] at hyZ
  clear hy
  go_enter Try.func12, Try.ntmps12
  go_upto_region 1 with (fail)
  obtain ⟨W, hW⟩ : ∃ W, w.alloc (.cells cs 38) = W := ⟨_, rfl⟩
  try rw [hW]
  have a1 : W.heap[w.heap.size]? = some (.cells cs 38) := by rw [← hW]; exact heap_alloc_new _ _
  have hB : Below w.heap.size w W := by rw [← hW]; exact (Below.refl _ _).alloc (Nat.le_refl _) _
  clear hW
  refine wp_region_lit ?_
  refine wpList_load_row rfl 38 (.tmp 1) rfl _ rfl _ cs (0, 0) _ a1 Try.underlying38 rfl i2 ?_
  (try simp only [Act.put, List.setIfInBounds_toArray, List.set_cons_zero, List.set_cons_succ])
  go_wp2_with fail
  refine Calls.mono (hen _) ?_
  rintro e W1 ⟨rfl, hb1⟩
  obtain ⟨Y, hY, y3, bY⟩ := newRow W1 (bvs zblk).toArray (bvs E).toArray 40
  have hb2 := hb1.trans (bY.mono hb1.size)
  have a2 := bBlk hb2 (Array.getElem?_eq_some_iff.1 a1).1 a1
  have hB2 := hB.trans (hb2.mono hB.size)
  have hne : w.heap.size ≠ W1.heap.size := by have := (Array.getElem?_eq_some_iff.1 a1).1; have := hb1.size; omega
  clear a1 hB hb1 bY hen hb2
  go_upto_region 4 with (first
    | (refine wpList_new rfl blkZ rfl ?_)
    | (refine wpList_store_row rfl 40 (.tmp 3) (.tmp 11) rfl _ (bvs E).toArray rfl rfl _ (bvs zblk).toArray (heap_alloc_new _ _) (bk_info hEl) (blk_sizes zblk_len hEl) (all_oneCell_toArray (oneCell_bvs _)) ?_; (try rw [hY]))
    | fail)
  clear hY
  have k0 : Y.cell? ⟨W1.heap.size, 0, none⟩ = some (.int .u8 83) := cell_of y3 HR.out.1
  have k5 : Y.cell? ⟨W1.heap.size, 5, none⟩ = some (.int .u8 s.blocks) := by have := cell_of y3 HR.out.2.2.1; rwa [u8_toNat, show s.blocks % 256 = s.blocks from by omega] at this
  have k6 : Y.cell? ⟨W1.heap.size, 6, none⟩ = some (.int .u8 s.root) := by have := cell_of y3 HR.out.2.2.2.1; rwa [u8_toNat, show s.root % 256 = s.root from by omega] at this
  have hat : SpAt Y w.heap.size s := .of hs (by rw [HC.out]; exact a2)
  have c1 := hat.c1
  have c2 := hat.c2
  have l7 := sl_of y3 HQ.out.2.1 hs.log
  have l39 := sl_of y3 HQ.out.2.2.1 hs.used
  obtain ⟨l3, l35⟩ := sl_sp hs HC.out a2
  have HA := Lib.hid hat.c0
  clear hat
  have ew1 : IntKind.i64.wrap s.blocks = s.blocks := wrap_small _ (by omega) (by omega)
  have ew2 : IntKind.i64.wrap s.root = s.root := wrap_small _ (by omega) (by omega)
  let S : World → Prop := fun w' => w'.cell? ⟨W1.heap.size, 0, none⟩ = some (.int .u8 83) ∧ w'.cell? ⟨W1.heap.size, 5, none⟩ = some (.int .u8 s.blocks) ∧ w'.cell? ⟨W1.heap.size, 6, none⟩ = some (.int .u8 s.root) ∧ w'.cell? ⟨w.heap.size, 1, none⟩ = some (.int .i64 s.blocks) ∧ w'.cell? ⟨w.heap.size, 2, none⟩ = some (.int .i64 s.root)
  have hS0 : S Y.drew := ⟨k0, k5, k6, c1, c2⟩
  clear k0 k5 k6 c1 c2
  refine wp_region_held (S := S) (by kernel_rfl) ?_
  change wpAnyH _ _ _ _ S _ _ _ Y.drew
  refine wpAnyH_take (i := 0) (oi := ?oi_1) (v := ?v_1) ?ho_1 ?h1_1 ?h2_1 ?h3_1 ?hq_1 (Or.inl ⟨?hw_1, ?hy_1⟩) ?hs_1 ?rest_1; (case h2_1 => kernel_rfl); (case h3_1 => kernel_rfl); (case ho_1 => (simp only [List.getElem?_toArray, List.getElem?_cons_zero, List.getElem?_cons_succ]; rfl)); (case h1_1 => kernel_rfl); (case hq_1 => exact fun _ _ _ h => h); (case hw_1 => rfl); (case hy_1 => (intro w' hSw; (try simp only [S] at hSw); go_simp; (try with_reducible rfl))); (case hs_1 => assumption); (try simp only [Act.put, List.setIfInBounds_toArray, List.set_cons_zero, List.set_cons_succ])
  refine wpAnyH_take (i := 1) (oi := ?oi_2) (v := ?v_2) ?ho_2 ?h1_2 ?h2_2 ?h3_2 ?hq_2 (Or.inl ⟨?hw_2, ?hy_2⟩) ?hs_2 ?rest_2; (case h2_2 => kernel_rfl); (case h3_2 => kernel_rfl); (case ho_2 => (simp only [List.getElem?_toArray, List.getElem?_cons_zero, List.getElem?_cons_succ]; rfl)); (case h1_2 => kernel_rfl); (case hq_2 => exact fun _ _ _ h => h); (case hw_2 => rfl); (case hy_2 => (intro w' hSw; (try simp only [S] at hSw); go_simp; (try with_reducible rfl))); (case hs_2 => assumption); (try simp only [Act.put, List.setIfInBounds_toArray, List.set_cons_zero, List.set_cons_succ])
  refine wpAnyH_take (i := 2) (oi := ?oi_3) (v := ?v_3) ?ho_3 ?h1_3 ?h2_3 ?h3_3 ?hq_3 (Or.inl ⟨?hw_3, ?hy_3⟩) ?hs_3 ?rest_3; (case h2_3 => kernel_rfl); (case h3_3 => kernel_rfl); (case ho_3 => (simp only [List.getElem?_toArray, List.getElem?_cons_zero, List.getElem?_cons_succ]; rfl)); (case h1_3 => kernel_rfl); (case hq_3 => exact fun _ _ _ h => h); (case hw_3 => rfl); (case hy_3 => (intro w' hSw; (try simp only [S] at hSw); go_simp; (try with_reducible rfl))); (case hs_3 => assumption); (try simp only [Act.put, List.setIfInBounds_toArray, List.set_cons_zero, List.set_cons_succ])
  refine wpAnyH_take (i := 3) (oi := ?oi_4) (v := ?v_4) ?ho_4 ?h1_4 ?h2_4 ?h3_4 ?hq_4 (Or.inl ⟨?hw_4, ?hy_4⟩) ?hs_4 ?rest_4; (case h2_4 => kernel_rfl); (case h3_4 => kernel_rfl); (case ho_4 => (simp only [List.getElem?_toArray, List.getElem?_cons_zero, List.getElem?_cons_succ]; rfl)); (case h1_4 => kernel_rfl); (case hq_4 => exact fun _ _ _ h => h); (case hw_4 => rfl); (case hy_4 => (intro w' hSw; (try simp only [S] at hSw); go_simp; (try with_reducible rfl))); (case hs_4 => assumption); (try simp only [Act.put, List.setIfInBounds_toArray, List.set_cons_zero, List.set_cons_succ])
  refine wpAnyH_take (i := 4) (oi := ?oi_5) (v := ?v_5) ?ho_5 ?h1_5 ?h2_5 ?h3_5 ?hq_5 (Or.inl ⟨?hw_5, ?hy_5⟩) ?hs_5 ?rest_5; (case h2_5 => kernel_rfl); (case h3_5 => kernel_rfl); (case ho_5 => (simp only [List.getElem?_toArray, List.getElem?_cons_zero, List.getElem?_cons_succ]; rfl)); (case h1_5 => kernel_rfl); (case hq_5 => exact fun _ _ _ h => h); (case hw_5 => rfl); (case hy_5 => (intro w' hSw; (try simp only [S] at hSw); go_simp; (try with_reducible rfl))); (case hs_5 => assumption); (try simp only [Act.put, List.setIfInBounds_toArray, List.set_cons_zero, List.set_cons_succ])
  refine wpAnyH_take (i := 5) (oi := ?oi_6) (v := ?v_6) ?ho_6 ?h1_6 ?h2_6 ?h3_6 ?hq_6 (Or.inl ⟨?hw_6, ?hy_6⟩) ?hs_6 ?rest_6; (case h2_6 => kernel_rfl); (case h3_6 => kernel_rfl); (case ho_6 => (simp only [List.getElem?_toArray, List.getElem?_cons_zero, List.getElem?_cons_succ]; rfl)); (case h1_6 => kernel_rfl); (case hq_6 => exact fun _ _ _ h => h); (case hw_6 => rfl); (case hy_6 => (intro w' hSw; (try simp only [S] at hSw); go_simp; (try with_reducible rfl))); (case hs_6 => assumption); (try simp only [Act.put, List.setIfInBounds_toArray, List.set_cons_zero, List.set_cons_succ])
  refine wpAnyH_take (i := 6) (oi := ?oi_7) (v := ?v_7) ?ho_7 ?h1_7 ?h2_7 ?h3_7 ?hq_7 (Or.inl ⟨?hw_7, ?hy_7⟩) ?hs_7 ?rest_7; (case h2_7 => kernel_rfl); (case h3_7 => kernel_rfl); (case ho_7 => (simp only [List.getElem?_toArray, List.getElem?_cons_zero, List.getElem?_cons_succ]; rfl)); (case h1_7 => kernel_rfl); (case hq_7 => exact fun _ _ _ h => h); (case hw_7 => rfl); (case hy_7 => (intro w' hSw; (try simp only [S] at hSw); go_simp; (try with_reducible rfl))); (case hs_7 => assumption); (try simp only [Act.put, List.setIfInBounds_toArray, List.set_cons_zero, List.set_cons_succ])
  refine wpAnyH_take (i := 7) (oi := ?oi_8) (v := ?v_8) ?ho_8 ?h1_8 ?h2_8 ?h3_8 ?hq_8 (Or.inl ⟨?hw_8, ?hy_8⟩) ?hs_8 ?rest_8; (case h2_8 => kernel_rfl); (case h3_8 => kernel_rfl); (case ho_8 => (simp only [List.getElem?_toArray, List.getElem?_cons_zero, List.getElem?_cons_succ]; rfl)); (case h1_8 => kernel_rfl); (case hq_8 => exact fun _ _ _ h => h); (case hw_8 => rfl); (case hy_8 => (intro w' hSw; (try simp only [S] at hSw); go_simp; (try with_reducible rfl))); (case hs_8 => assumption); (try simp only [Act.put, List.setIfInBounds_toArray, List.set_cons_zero, List.set_cons_succ])
  refine wpAnyH_take (i := 8) (oi := ?oi_9) (v := ?v_9) ?ho_9 ?h1_9 ?h2_9 ?h3_9 ?hq_9 (Or.inl ⟨?hw_9, ?hy_9⟩) ?hs_9 ?rest_9; (case h2_9 => kernel_rfl); (case h3_9 => kernel_rfl); (case ho_9 => (simp only [List.getElem?_toArray, List.getElem?_cons_zero, List.getElem?_cons_succ]; rfl)); (case h1_9 => kernel_rfl); (case hq_9 => exact fun _ _ _ h => h); (case hw_9 => rfl); (case hy_9 => (intro w' hSw; (try simp only [S] at hSw); go_simp; (try with_reducible rfl))); (case hs_9 => assumption); (try simp only [Act.put, List.setIfInBounds_toArray, List.set_cons_zero, List.set_cons_succ])
  refine wpAnyH_take (i := 9) (oi := ?oi_10) (v := ?v_10) ?ho_10 ?h1_10 ?h2_10 ?h3_10 ?hq_10 (Or.inl ⟨?hw_10, ?hy_10⟩) ?hs_10 ?rest_10; (case h2_10 => kernel_rfl); (case h3_10 => kernel_rfl); (case ho_10 => (simp only [List.getElem?_toArray, List.getElem?_cons_zero, List.getElem?_cons_succ]; rfl)); (case h1_10 => kernel_rfl); (case hq_10 => exact fun _ _ _ h => h); (case hw_10 => rfl); (case hy_10 => (intro w' hSw; (try simp only [S] at hSw); go_simp; (try with_reducible rfl))); (case hs_10 => assumption); (try simp only [Act.put, List.setIfInBounds_toArray, List.set_cons_zero, List.set_cons_succ])
  refine wpAnyH_take (i := 10) (oi := ?oi_11) (v := ?v_11) ?ho_11 ?h1_11 ?h2_11 ?h3_11 ?hq_11 (Or.inl ⟨?hw_11, ?hy_11⟩) ?hs_11 ?rest_11; (case h2_11 => kernel_rfl); (case h3_11 => kernel_rfl); (case ho_11 => (simp only [List.getElem?_toArray, List.getElem?_cons_zero, List.getElem?_cons_succ]; rfl)); (case h1_11 => kernel_rfl); (case hq_11 => exact fun _ _ _ h => h); (case hw_11 => rfl); (case hy_11 => (intro w' hSw; (try simp only [S] at hSw); go_simp; (try with_reducible rfl))); (case hs_11 => assumption); (try simp only [Act.put, List.setIfInBounds_toArray, List.set_cons_zero, List.set_cons_succ])
  refine wpAnyH_take (i := 11) (oi := ?oi_12) (v := ?v_12) ?ho_12 ?h1_12 ?h2_12 ?h3_12 ?hq_12 (Or.inl ⟨?hw_12, ?hy_12⟩) ?hs_12 ?rest_12; (case h2_12 => kernel_rfl); (case h3_12 => kernel_rfl); (case ho_12 => (simp only [List.getElem?_toArray, List.getElem?_cons_zero, List.getElem?_cons_succ]; rfl)); (case h1_12 => kernel_rfl); (case hq_12 => exact fun _ _ _ h => h); (case hw_12 => rfl); (case hy_12 => (intro w' hSw; (try simp only [S] at hSw); go_simp; (try with_reducible rfl))); (case hs_12 => assumption); (try simp only [Act.put, List.setIfInBounds_toArray, List.set_cons_zero, List.set_cons_succ])
  refine wpAnyH_take (i := 12) (oi := ?oi_13) (v := ?v_13) ?ho_13 ?h1_13 ?h2_13 ?h3_13 ?hq_13 (Or.inl ⟨?hw_13, ?hy_13⟩) ?hs_13 ?rest_13; (case h2_13 => kernel_rfl); (case h3_13 => kernel_rfl); (case ho_13 => (simp only [List.getElem?_toArray, List.getElem?_cons_zero, List.getElem?_cons_succ]; rfl)); (case h1_13 => kernel_rfl); (case hq_13 => exact fun _ _ _ h => h); (case hw_13 => rfl); (case hy_13 => (intro w' hSw; (try simp only [S] at hSw); go_simp; (try with_reducible rfl))); (case hs_13 => assumption); (try simp only [Act.put, List.setIfInBounds_toArray, List.set_cons_zero, List.set_cons_succ])
  refine wpAnyH_take (i := 13) (oi := ?oi_14) (v := ?v_14) ?ho_14 ?h1_14 ?h2_14 ?h3_14 ?hq_14 (Or.inl ⟨?hw_14, ?hy_14⟩) ?hs_14 ?rest_14; (case h2_14 => kernel_rfl); (case h3_14 => kernel_rfl); (case ho_14 => (simp only [List.getElem?_toArray, List.getElem?_cons_zero, List.getElem?_cons_succ]; rfl)); (case h1_14 => kernel_rfl); (case hq_14 => exact fun _ _ _ h => h); (case hw_14 => rfl); (case hy_14 => (intro w' hSw; (try simp only [S] at hSw); go_simp; (try with_reducible rfl))); (case hs_14 => assumption); (try simp only [Act.put, List.setIfInBounds_toArray, List.set_cons_zero, List.set_cons_succ])
  refine wpAnyH_take (i := 14) (oi := ?oi_15) (v := ?v_15) ?ho_15 ?h1_15 ?h2_15 ?h3_15 ?hq_15 (Or.inl ⟨?hw_15, ?hy_15⟩) ?hs_15 ?rest_15; (case h2_15 => kernel_rfl); (case h3_15 => kernel_rfl); (case ho_15 => (simp only [List.getElem?_toArray, List.getElem?_cons_zero, List.getElem?_cons_succ]; rfl)); (case h1_15 => kernel_rfl); (case hq_15 => exact fun _ _ _ h => h); (case hw_15 => rfl); (case hy_15 => (intro w' hSw; (try simp only [S] at hSw); go_simp; (try with_reducible rfl))); (case hs_15 => assumption); (try simp only [Act.put, List.setIfInBounds_toArray, List.set_cons_zero, List.set_cons_succ])
  refine wpAnyH_take (i := 15) (oi := ?oi_16) (v := ?v_16) ?ho_16 ?h1_16 ?h2_16 ?h3_16 ?hq_16 (Or.inl ⟨?hw_16, ?hy_16⟩) ?hs_16 ?rest_16; (case h2_16 => kernel_rfl); (case h3_16 => kernel_rfl); (case ho_16 => (simp only [List.getElem?_toArray, List.getElem?_cons_zero, List.getElem?_cons_succ]; rfl)); (case h1_16 => kernel_rfl); (case hq_16 => exact fun _ _ _ h => h); (case hw_16 => rfl); (case hy_16 => (intro w' hSw; (try simp only [S] at hSw); go_simp; (try with_reducible rfl))); (case hs_16 => assumption); (try simp only [Act.put, List.setIfInBounds_toArray, List.set_cons_zero, List.set_cons_succ])
  refine wpAnyH_take (i := 16) (oi := ?oi_17) (v := ?v_17) ?ho_17 ?h1_17 ?h2_17 ?h3_17 ?hq_17 (Or.inl ⟨?hw_17, ?hy_17⟩) ?hs_17 ?rest_17; (case h2_17 => kernel_rfl); (case h3_17 => kernel_rfl); (case ho_17 => (simp only [List.getElem?_toArray, List.getElem?_cons_zero, List.getElem?_cons_succ]; rfl)); (case h1_17 => kernel_rfl); (case hq_17 => exact fun _ _ _ h => h); (case hw_17 => rfl); (case hy_17 => (intro w' hSw; (try simp only [S] at hSw); go_simp; (try with_reducible rfl))); (case hs_17 => assumption); (try simp only [Act.put, List.setIfInBounds_toArray, List.set_cons_zero, List.set_cons_succ])
  refine wpAnyH_take (i := 17) (oi := ?oi_18) (v := ?v_18) ?ho_18 ?h1_18 ?h2_18 ?h3_18 ?hq_18 (Or.inl ⟨?hw_18, ?hy_18⟩) ?hs_18 ?rest_18; (case h2_18 => kernel_rfl); (case h3_18 => kernel_rfl); (case ho_18 => (simp only [List.getElem?_toArray, List.getElem?_cons_zero, List.getElem?_cons_succ]; rfl)); (case h1_18 => kernel_rfl); (case hq_18 => exact fun _ _ _ h => h); (case hw_18 => rfl); (case hy_18 => (intro w' hSw; (try simp only [S] at hSw); go_simp; (try with_reducible rfl))); (case hs_18 => assumption); (try simp only [Act.put, List.setIfInBounds_toArray, List.set_cons_zero, List.set_cons_succ])
  refine wpAnyH_take (i := 18) (oi := ?oi_19) (v := ?v_19) ?ho_19 ?h1_19 ?h2_19 ?h3_19 ?hq_19 (Or.inl ⟨?hw_19, ?hy_19⟩) ?hs_19 ?rest_19; (case h2_19 => kernel_rfl); (case h3_19 => kernel_rfl); (case ho_19 => (simp only [List.getElem?_toArray, List.getElem?_cons_zero, List.getElem?_cons_succ]; rfl)); (case h1_19 => kernel_rfl); (case hq_19 => exact fun _ _ _ h => h); (case hw_19 => rfl); (case hy_19 => (intro w' hSw; (try simp only [S] at hSw); go_simp; (try with_reducible rfl))); (case hs_19 => assumption); (try simp only [Act.put, List.setIfInBounds_toArray, List.set_cons_zero, List.set_cons_succ])
  refine wpAnyH_take (i := 19) (oi := ?oi_20) (v := ?v_20) ?ho_20 ?h1_20 ?h2_20 ?h3_20 ?hq_20 (Or.inl ⟨?hw_20, ?hy_20⟩) ?hs_20 ?rest_20; (case h2_20 => kernel_rfl); (case h3_20 => kernel_rfl); (case ho_20 => (simp only [List.getElem?_toArray, List.getElem?_cons_zero, List.getElem?_cons_succ]; rfl)); (case h1_20 => kernel_rfl); (case hq_20 => exact fun _ _ _ h => h); (case hw_20 => rfl); (case hy_20 => (intro w' hSw; (try simp only [S] at hSw); go_simp; (try with_reducible rfl))); (case hs_20 => assumption); (try simp only [Act.put, List.setIfInBounds_toArray, List.set_cons_zero, List.set_cons_succ])
  refine wpAnyH_take (i := 20) (oi := ?oi_21) (v := ?v_21) ?ho_21 ?h1_21 ?h2_21 ?h3_21 ?hq_21 (Or.inl ⟨?hw_21, ?hy_21⟩) ?hs_21 ?rest_21; (case h2_21 => kernel_rfl); (case h3_21 => kernel_rfl); (case ho_21 => (simp only [List.getElem?_toArray, List.getElem?_cons_zero, List.getElem?_cons_succ]; rfl)); (case h1_21 => kernel_rfl); (case hq_21 => exact fun _ _ _ h => h); (case hw_21 => rfl); (case hy_21 => (intro w' hSw; (try simp only [S] at hSw); go_simp; (try with_reducible rfl))); (case hs_21 => assumption); (try simp only [Act.put, List.setIfInBounds_toArray, List.set_cons_zero, List.set_cons_succ])
  refine wpAnyH_take (i := 21) (oi := ?oi_22) (v := ?v_22) ?ho_22 ?h1_22 ?h2_22 ?h3_22 ?hq_22 (Or.inl ⟨?hw_22, ?hy_22⟩) ?hs_22 ?rest_22; (case h2_22 => kernel_rfl); (case h3_22 => kernel_rfl); (case ho_22 => (simp only [List.getElem?_toArray, List.getElem?_cons_zero, List.getElem?_cons_succ]; rfl)); (case h1_22 => kernel_rfl); (case hq_22 => exact fun _ _ _ h => h); (case hw_22 => rfl); (case hy_22 => (intro w' hSw; (try simp only [S] at hSw); go_simp; (try with_reducible rfl))); (case hs_22 => assumption); (try simp only [Act.put, List.setIfInBounds_toArray, List.set_cons_zero, List.set_cons_succ])
  refine wpAnyH_take (i := 22) (oi := ?oi_23) (v := ?v_23) ?ho_23 ?h1_23 ?h2_23 ?h3_23 ?hq_23 (Or.inl ⟨?hw_23, ?hy_23⟩) ?hs_23 ?rest_23; (case h2_23 => kernel_rfl); (case h3_23 => kernel_rfl); (case ho_23 => (simp only [List.getElem?_toArray, List.getElem?_cons_zero, List.getElem?_cons_succ]; rfl)); (case h1_23 => kernel_rfl); (case hq_23 => exact fun _ _ _ h => h); (case hw_23 => rfl); (case hy_23 => (intro w' hSw; (try simp only [S] at hSw); go_simp; (try with_reducible rfl))); (case hs_23 => assumption); (try simp only [Act.put, List.setIfInBounds_toArray, List.set_cons_zero, List.set_cons_succ])
  refine wpAnyH_ready (rs := [23]) (by kernel_rfl) (by simp) (AllReadyH.cons (o := ?oo23_37) ?hoo23_37 (fun K hK => ?steponly37) AllReadyH.nil); (case hoo23_37 => (simp only [List.getElem?_toArray, List.getElem?_cons_zero, List.getElem?_cons_succ]; rfl))
  go_simp
  refine Calls.mono (bytes_eqT _ l7.drew l3.drew) ?_
  rintro e w' ⟨rfl, rfl⟩
  refine hK.out _ _ hS0 (fun _ => ?_)
  clear hK K
  (try simp only [Act.put, List.setIfInBounds_toArray, List.set_cons_zero, List.set_cons_succ])
  refine wpAnyH_take (i := 24) (oi := ?oi_24) (v := ?v_24) ?ho_24 ?h1_24 ?h2_24 ?h3_24 ?hq_24 (Or.inl ⟨?hw_24, ?hy_24⟩) ?hs_24 ?rest_24; (case h2_24 => kernel_rfl); (case h3_24 => kernel_rfl); (case ho_24 => (simp only [List.getElem?_toArray, List.getElem?_cons_zero, List.getElem?_cons_succ]; rfl)); (case h1_24 => kernel_rfl); (case hq_24 => exact fun _ _ _ h => h); (case hw_24 => rfl); (case hy_24 => (intro w' hSw; (try simp only [S] at hSw); go_simp; (try with_reducible rfl))); (case hs_24 => assumption); (try simp only [Act.put, List.setIfInBounds_toArray, List.set_cons_zero, List.set_cons_succ])
  refine wpAnyH_take (i := 25) (oi := ?oi_25) (v := ?v_25) ?ho_25 ?h1_25 ?h2_25 ?h3_25 ?hq_25 (Or.inl ⟨?hw_25, ?hy_25⟩) ?hs_25 ?rest_25; (case h2_25 => kernel_rfl); (case h3_25 => kernel_rfl); (case ho_25 => (simp only [List.getElem?_toArray, List.getElem?_cons_zero, List.getElem?_cons_succ]; rfl)); (case h1_25 => kernel_rfl); (case hq_25 => exact fun _ _ _ h => h); (case hw_25 => rfl); (case hy_25 => (intro w' hSw; (try simp only [S] at hSw); go_simp; (try with_reducible rfl))); (case hs_25 => assumption); (try simp only [Act.put, List.setIfInBounds_toArray, List.set_cons_zero, List.set_cons_succ])
  refine wpAnyH_take (i := 26) (oi := ?oi_26) (v := ?v_26) ?ho_26 ?h1_26 ?h2_26 ?h3_26 ?hq_26 (Or.inl ⟨?hw_26, ?hy_26⟩) ?hs_26 ?rest_26; (case h2_26 => kernel_rfl); (case h3_26 => kernel_rfl); (case ho_26 => (simp only [List.getElem?_toArray, List.getElem?_cons_zero, List.getElem?_cons_succ]; rfl)); (case h1_26 => kernel_rfl); (case hq_26 => exact fun _ _ _ h => h); (case hw_26 => rfl); (case hy_26 => (intro w' hSw; (try simp only [S] at hSw); go_simp; (try with_reducible rfl))); (case hs_26 => assumption); (try simp only [Act.put, List.setIfInBounds_toArray, List.set_cons_zero, List.set_cons_succ])
  refine wpAnyH_take (i := 27) (oi := ?oi_27) (v := ?v_27) ?ho_27 ?h1_27 ?h2_27 ?h3_27 ?hq_27 (Or.inl ⟨?hw_27, ?hy_27⟩) ?hs_27 ?rest_27; (case h2_27 => kernel_rfl); (case h3_27 => kernel_rfl); (case ho_27 => (simp only [List.getElem?_toArray, List.getElem?_cons_zero, List.getElem?_cons_succ]; rfl)); (case h1_27 => kernel_rfl); (case hq_27 => exact fun _ _ _ h => h); (case hw_27 => rfl); (case hy_27 => (intro w' hSw; (try simp only [S] at hSw); go_simp; (try with_reducible rfl))); (case hs_27 => assumption); (try simp only [Act.put, List.setIfInBounds_toArray, List.set_cons_zero, List.set_cons_succ])
  refine wpAnyH_take (i := 28) (oi := ?oi_28) (v := ?v_28) ?ho_28 ?h1_28 ?h2_28 ?h3_28 ?hq_28 (Or.inl ⟨?hw_28, ?hy_28⟩) ?hs_28 ?rest_28; (case h2_28 => kernel_rfl); (case h3_28 => kernel_rfl); (case ho_28 => (simp only [List.getElem?_toArray, List.getElem?_cons_zero, List.getElem?_cons_succ]; rfl)); (case h1_28 => kernel_rfl); (case hq_28 => exact fun _ _ _ h => h); (case hw_28 => rfl); (case hy_28 => (intro w' hSw; (try simp only [S] at hSw); go_simp; (try with_reducible rfl))); (case hs_28 => assumption); (try simp only [Act.put, List.setIfInBounds_toArray, List.set_cons_zero, List.set_cons_succ])
  refine wpAnyH_take (i := 29) (oi := ?oi_29) (v := ?v_29) ?ho_29 ?h1_29 ?h2_29 ?h3_29 ?hq_29 (Or.inl ⟨?hw_29, ?hy_29⟩) ?hs_29 ?rest_29; (case h2_29 => kernel_rfl); (case h3_29 => kernel_rfl); (case ho_29 => (simp only [List.getElem?_toArray, List.getElem?_cons_zero, List.getElem?_cons_succ]; rfl)); (case h1_29 => kernel_rfl); (case hq_29 => exact fun _ _ _ h => h); (case hw_29 => rfl); (case hy_29 => (intro w' hSw; (try simp only [S] at hSw); go_simp; (try with_reducible rfl))); (case hs_29 => assumption); (try simp only [Act.put, List.setIfInBounds_toArray, List.set_cons_zero, List.set_cons_succ])
  refine wpAnyH_ready (rs := [30]) (by kernel_rfl) (by simp) (AllReadyH.cons (o := ?oo30_38) ?hoo30_38 (fun K hK => ?steponly38) AllReadyH.nil); (case hoo30_38 => (simp only [List.getElem?_toArray, List.getElem?_cons_zero, List.getElem?_cons_succ]; rfl))
  go_simp
  refine Calls.mono (bytes_eqT _ l39.drew l35.drew) ?_
  rintro e w' ⟨rfl, rfl⟩
  refine hK.out _ _ hS0 (fun _ => ?_)
  clear hK K
  (try simp only [Act.put, List.setIfInBounds_toArray, List.set_cons_zero, List.set_cons_succ])
  refine wpAnyH_take (i := 31) (oi := ?oi_30) (v := ?v_30) ?ho_30 ?h1_30 ?h2_30 ?h3_30 ?hq_30 (Or.inl ⟨?hw_30, ?hy_30⟩) ?hs_30 ?rest_30; (case h2_30 => kernel_rfl); (case h3_30 => kernel_rfl); (case ho_30 => (simp only [List.getElem?_toArray, List.getElem?_cons_zero, List.getElem?_cons_succ]; rfl)); (case h1_30 => kernel_rfl); (case hq_30 => exact fun _ _ _ h => h); (case hw_30 => rfl); (case hy_30 => (intro w' hSw; (try simp only [S] at hSw); go_simp; (try with_reducible rfl))); (case hs_30 => assumption); (try simp only [Act.put, List.setIfInBounds_toArray, List.set_cons_zero, List.set_cons_succ])
  refine wpAnyH_take (i := 32) (oi := ?oi_31) (v := ?v_31) ?ho_31 ?h1_31 ?h2_31 ?h3_31 ?hq_31 (Or.inl ⟨?hw_31, ?hy_31⟩) ?hs_31 ?rest_31; (case h2_31 => kernel_rfl); (case h3_31 => kernel_rfl); (case ho_31 => (simp only [List.getElem?_toArray, List.getElem?_cons_zero, List.getElem?_cons_succ]; rfl)); (case h1_31 => kernel_rfl); (case hq_31 => exact fun _ _ _ h => h); (case hw_31 => rfl); (case hy_31 => (intro w' hSw; (try simp only [S] at hSw); go_simp; (try with_reducible rfl))); (case hs_31 => assumption); (try simp only [Act.put, List.setIfInBounds_toArray, List.set_cons_zero, List.set_cons_succ])
  refine wpAnyH_done (by kernel_rfl) ?_ _
  clear hS0
  have v3 : Y.drew.heap[W1.heap.size]? = some (.cells (bvs E).toArray 40) := y3
  have v1 : Y.drew.heap[w.heap.size]? = some (.cells cs 38) := a2
  have hBV : Below w.heap.size w Y.drew := hB2.drew
  clear l7 l39 l3 l35 y3 a2 hB2
  generalize Y.drew = V at *
  go_wp2_with fail
  go_loopw [5] (fun i wr => ∃ k : Nat, k ≤ 4 ∧ i = .int .i64 k ∧ wr.heap[W1.heap.size]? = some (.cells (bvs E).toArray 40) ∧ wr.heap[w.heap.size]? = some (.cells cs 38) ∧ Below w.heap.size w wr) (fun i _ => 4 - (intOf i).toNat)
  case atStart => exact ⟨0, by omega, rfl, v3, v1, hBV⟩
  case round =>
    clear v3 v1 hBV
    obtain ⟨k, hk, rfl, u3, u1, hBu⟩ := hrel
    by_cases hlt : k < 4
    · have g0 : wr.cell? ⟨w.heap.size, 0, none⟩ = some (.int .u32 (s.gen : Int)) := (SpAt.of hs (by rw [HC.out]; exact u1)).c0
      have gk := cell_of u3 (HR.out.2.1 k hlt)
      rw [u8_toNat] at gk
      have HU := Lib.hid (And.intro u3 (And.intro u1 hBu))
      clear u3 u1 hBu
      obtain rfl | rfl | rfl | rfl : k = 0 ∨ k = 1 ∨ k = 2 ∨ k = 3 := by omega
      all_goals
        simp only [Nat.reduceMul, Nat.reduceSub, Nat.reduceAdd, Int.reducePow, Int.ediv_one] at gk
        go_wp2
        go_quiet (fail)
        go_wp2
        go_roundw
        case rel => first | exact ⟨1, by omega, rfl, HU.out.1, HU.out.2.1, bDrewN HU.out.2.2 _⟩ | exact ⟨2, by omega, rfl, HU.out.1, HU.out.2.1, bDrewN HU.out.2.2 _⟩ | exact ⟨3, by omega, rfl, HU.out.1, HU.out.2.1, bDrewN HU.out.2.2 _⟩ | exact ⟨4, by omega, rfl, HU.out.1, HU.out.2.1, bDrewN HU.out.2.2 _⟩
        case measure => simp [intOf]
    · obtain rfl : k = 4 := by omega
      have hsl := sl_of (o := 0) (n := 55) (M := s.bytes) u3 (by rw [List.drop_zero]; exact HQ.out.1) hbl
      go_wp2_with fail
      refine Calls.mono (hck _ _ _ _ (Nat.le_refl _) hsl) ?_
      rintro e W4 ⟨rfl, hb4⟩
      obtain ⟨Z, hZ, z6, bZ⟩ := newRow W4 (bvs y4).toArray (bvs F).toArray 86
      have hbZ := hb4.trans (bZ.mono hb4.size)
      have z3 := bBlk hbZ (Array.getElem?_eq_some_iff.1 u3).1 u3
      have hBZ := hBu.trans (hbZ.mono hBu.size)
      clear u3 u1 hBu hsl hck hb4 bZ hbZ
      go_upto_region 12 with (first
        | (refine wpList_new rfl hyZ rfl ?_)
        | (refine wpList_store_row rfl 86 (.tmp 6) (.tmp 77) rfl _ (bvs F).toArray rfl rfl _ (bvs y4).toArray (heap_alloc_new _ _) (d4_info hF4) (by rw [List.size_toArray, List.size_toArray, bvs_len, bvs_len, hyl, hF4]) (all_oneCell_toArray (oneCell_bvs _)) ?_; (try rw [hZ]))
        | fail)
      clear hZ
      go_wp2_with fail
      go_loop [7] (fun i => ∃ k : Nat, 59 ≤ k ∧ k ≤ 128 ∧ i = .int .i64 k) (fun i => 128 - (intOf i).toNat)
      case atStart => exact ⟨59, by omega, by omega, rfl⟩
      case round =>
        obtain ⟨k, hk1, hk2, rfl⟩ := hrel
        by_cases hlt : k < 128
        · have hz0 : Z.cell? ⟨W1.heap.size, k, none⟩ = some (.int .u8 0) := cell_of z3 (HR.out.2.2.2.2 k hk1 hlt)
          have HU := Lib.hid (And.intro z3 hBZ)
          clear z3 hBZ
          go_wp2
          go_round
          case rel => exact ⟨k + 1, by omega, by omega, by go_num⟩
          case measure => simp [intOf]; omega
        · obtain rfl : k = 128 := by omega
          have q55 := sl_of (o := 55) (n := 4) (M := F) z3 HQ.out.2.2.2 hF4
          have q6 : Sl Z Z.heap.size 1 (some ⟨W4.heap.size, 0, none⟩) 4 (bvs F) := Sl.new (sz := 1) (n := 4) z6 (by simp [bvs_len, hF4])
          have hBd : Below w.heap.size w Z.drew := hBZ.drew
          clear z3 z6 hBZ
          go_upto_region 17 with (fail)
          let S : World → Prop := fun _ => True
          refine wp_region_held (S := S) (by kernel_rfl) ?_
          change wpAnyH _ _ _ _ S _ _ _ Z.drew
          have hS0 : S Z.drew := trivial
          refine wpAnyH_take (i := 0) (oi := ?oi_32) (v := ?v_32) ?ho_32 ?h1_32 ?h2_32 ?h3_32 ?hq_32 (Or.inl ⟨?hw_32, ?hy_32⟩) ?hs_32 ?rest_32; (case h2_32 => kernel_rfl); (case h3_32 => kernel_rfl); (case ho_32 => (simp only [List.getElem?_toArray, List.getElem?_cons_zero, List.getElem?_cons_succ]; rfl)); (case h1_32 => kernel_rfl); (case hq_32 => exact fun _ _ _ h => h); (case hw_32 => rfl); (case hy_32 => (intro w' hSw; (try simp only [S] at hSw); go_simp; (try with_reducible rfl))); (case hs_32 => assumption); (try simp only [Act.put, List.setIfInBounds_toArray, List.set_cons_zero, List.set_cons_succ])
          refine wpAnyH_take (i := 1) (oi := ?oi_33) (v := ?v_33) ?ho_33 ?h1_33 ?h2_33 ?h3_33 ?hq_33 (Or.inl ⟨?hw_33, ?hy_33⟩) ?hs_33 ?rest_33; (case h2_33 => kernel_rfl); (case h3_33 => kernel_rfl); (case ho_33 => (simp only [List.getElem?_toArray, List.getElem?_cons_zero, List.getElem?_cons_succ]; rfl)); (case h1_33 => kernel_rfl); (case hq_33 => exact fun _ _ _ h => h); (case hw_33 => rfl); (case hy_33 => (intro w' hSw; (try simp only [S] at hSw); go_simp; (try with_reducible rfl))); (case hs_33 => assumption); (try simp only [Act.put, List.setIfInBounds_toArray, List.set_cons_zero, List.set_cons_succ])
          refine wpAnyH_ready (rs := [2]) (by kernel_rfl) (by simp) (AllReadyH.cons (o := ?oo2_39) ?hoo2_39 (fun K hK => ?steponly39) AllReadyH.nil); (case hoo2_39 => (simp only [List.getElem?_toArray, List.getElem?_cons_zero, List.getElem?_cons_succ]; rfl))
          go_simp
          refine Calls.mono (bytes_eqT _ q55.drew q6.drew) ?_
          rintro e w' ⟨rfl, rfl⟩
          refine hK.out _ _ hS0 (fun _ => ?_)
          clear hK K
          (try simp only [Act.put, List.setIfInBounds_toArray, List.set_cons_zero, List.set_cons_succ])
          refine wpAnyH_take (i := 3) (oi := ?oi_34) (v := ?v_34) ?ho_34 ?h1_34 ?h2_34 ?h3_34 ?hq_34 (Or.inl ⟨?hw_34, ?hy_34⟩) ?hs_34 ?rest_34; (case h2_34 => kernel_rfl); (case h3_34 => kernel_rfl); (case ho_34 => (simp only [List.getElem?_toArray, List.getElem?_cons_zero, List.getElem?_cons_succ]; rfl)); (case h1_34 => kernel_rfl); (case hq_34 => exact fun _ _ _ h => h); (case hw_34 => rfl); (case hy_34 => (intro w' hSw; (try simp only [S] at hSw); go_simp; (try with_reducible rfl))); (case hs_34 => assumption); (try simp only [Act.put, List.setIfInBounds_toArray, List.set_cons_zero, List.set_cons_succ])
          refine wpAnyH_ready (rs := [4]) (by kernel_rfl) (by simp) (AllReadyH.cons (o := ?oo4_40) ?hoo4_40 (fun K hK => ?steponly40) AllReadyH.nil); (case hoo4_40 => (simp only [List.getElem?_toArray, List.getElem?_cons_zero, List.getElem?_cons_succ]; rfl))
          go_simp
          refine Calls.mono (wakes07_any _) ?_
          rintro e W5 ⟨rfl, hb5⟩
          refine hK.out _ _ trivial (fun _ => ?_)
          clear hK K
          (try simp only [Act.put, List.setIfInBounds_toArray, List.set_cons_zero, List.set_cons_succ])
          refine wpAnyH_take (i := 5) (oi := ?oi_35) (v := ?v_35) ?ho_35 ?h1_35 ?h2_35 ?h3_35 ?hq_35 (Or.inl ⟨?hw_35, ?hy_35⟩) ?hs_35 ?rest_35; (case h2_35 => kernel_rfl); (case h3_35 => kernel_rfl); (case ho_35 => (simp only [List.getElem?_toArray, List.getElem?_cons_zero, List.getElem?_cons_succ]; rfl)); (case h1_35 => kernel_rfl); (case hq_35 => exact fun _ _ _ h => h); (case hw_35 => rfl); (case hy_35 => (intro w' hSw; (try simp only [S] at hSw); go_simp; (try with_reducible rfl))); (case hs_35 => assumption); (try simp only [Act.put, List.setIfInBounds_toArray, List.set_cons_zero, List.set_cons_succ])
          refine wpAnyH_take (i := 6) (oi := ?oi_36) (v := ?v_36) ?ho_36 ?h1_36 ?h2_36 ?h3_36 ?hq_36 (Or.inl ⟨?hw_36, ?hy_36⟩) ?hs_36 ?rest_36; (case h2_36 => kernel_rfl); (case h3_36 => kernel_rfl); (case ho_36 => (simp only [List.getElem?_toArray, List.getElem?_cons_zero, List.getElem?_cons_succ]; rfl)); (case h1_36 => kernel_rfl); (case hq_36 => exact fun _ _ _ h => h); (case hw_36 => rfl); (case hy_36 => (intro w' hSw; (try simp only [S] at hSw); go_simp; (try with_reducible rfl))); (case hs_36 => assumption); (try simp only [Act.put, List.setIfInBounds_toArray, List.set_cons_zero, List.set_cons_succ])
          refine wpAnyH_done (by kernel_rfl) ?_ _
          go_wp2_with fail
          go_ret
          exact Ret.mk rfl (hBd.trans (hb5.mono hBd.size))

set_option maxRecDepth 100000 in
theorem superPlaces_walk {H : Type} {enc : TypeId × Value → H} {W : World} {base : Nat} {v0 : Value} {d0 : DataW H} {p0 : List MemPlace}
    (k0 : Value.okWide Try.prog W .any base 38 v0) (h0 : DataW.Trod enc Try.prog W 0 (fun _ => true) true 38 v0 d0 p0)
    : Calls Try.prog 12 #[v0] W fun e W' => e = .returned (.bool true) ∧ Below W.heap.size W W' := by
  obtain ⟨s, rfl, hs⟩ := open_sp k0 h0
  cases hg : s.good
  · exact superPlaces_no hs hg W
  · exact superPlaces_yes hs hg W
end Go.Proofs.Ytnkdbkgihemjnaa
