/- The walk over RevisionBack, its first half. (s6/revback.py writes it.) -/
import Derived.Test.YtjfkaebikmnnaaaRevCodes
import Derived.Test.YtjfkaebikmnnaaaRevPlain3
namespace Go.Proofs.Ytjfkaebikmnnaaa
set_option linter.unusedSimpArgs false
set_option linter.unusedVariables false
open Go.RowKit Go.ChangeShapes Go.WideShapes Go.Sort

theorem more_rev {l : List UInt8} (h : l.length = 101) (z : UInt8) : isR (l ++ [z]) = false ∧ rvOf (l ++ [z]) = rv0 := by
  have e : isR (l ++ [z]) = false := by unfold isR; simp [h]
  refine ⟨e, ?_⟩
  unfold rvOf
  rw [e]
  rfl
theorem back_r (b : List UInt8) : (erF (isR b) = 11 ∧ rvOf b = rv0) ∨ (erF (isR b) = 0 ∧ erF (rvOf b).good = 0 ∧ (rvOf b).enc = b) := by
  cases h : isR b
  · exact .inl ⟨rfl, by unfold rvOf; rw [h]; rfl⟩
  · have hh := h
    unfold isR at hh
    simp only [Bool.and_eq_true, decide_eq_true_eq] at hh
    have e : rvOf b = decR b := by unfold rvOf; rw [h, if_pos rfl]
    exact .inr ⟨rfl, by rw [e, hh.2]; rfl, by rw [e]; unfold RV.enc; rw [hh.2, if_pos rfl]; exact bytes_dec hh.1⟩
theorem back_l (b : List UInt8) : (erF (isL b) = 11 ∧ nextOf b = 0) ∨ (erF (isL b) = 0 ∧ erF (goodL (nextOf b) (logOf b)) = 0 ∧ encL (nextOf b) (logOf b) = b) := by
  cases h : isL b
  · exact .inl ⟨rfl, (none_log h).1⟩
  · have hh := back_log h
    exact .inr ⟨rfl, by rw [hh.2]; rfl, by unfold encL; rw [hh.2, if_pos rfl]; exact hh.1⟩
attribute [-go_sem] Builtin.append_
set_option maxHeartbeats 16000000 in
set_option maxRecDepth 100000 in
theorem revBack_core {r : RV} (hr : r.Ok) {next : Int} {A : Option Addr} {n c : Nat} {l : List LE} {A0 : Option Addr} {n0 c0 : Nat} {b : List UInt8} (w : World) (hl : LgAt w w.heap.size A n c l) (hcm : c ≤ maxLen) (hn : n ≤ 50)
    (hs : Sl w w.heap.size 1 A0 n0 (bvs b)) (h0 : n0 ≤ 1000) (hc0 : n0 ≤ c0) (hcm0 : c0 ≤ maxLen) : Calls Try.prog 7 #[rvv r, lgv next A n c, .slice A0 n0 c0] w (Ret w (.bool true)) := by
  have hrv := fun W => rev_any hr W
  have hgd : (r.good = false ∧ erF r.good = 11) ∨ (r.good = true ∧ erF r.good = 0 ∧ r.enc = r.bytes ∧ r.enc.length = 101 ∧ isR r.enc = true ∧ rvOf r.enc = r) := by
    cases hg : r.good
    · exact .inl ⟨rfl, rfl⟩
    · have e : r.enc = r.bytes := by unfold RV.enc; rw [hg]; rfl
      refine .inr ⟨rfl, rfl, e, by rw [e]; exact hr.bytes, by rw [e]; exact isR_bytes hr hg, ?_⟩
      rw [e]
      unfold rvOf
      rw [isR_bytes hr hg, if_pos rfl]
      exact dec_bytes hr hg
  obtain ⟨E, hE⟩ : ∃ q, r.enc = q := ⟨_, rfl⟩
  obtain ⟨z1, hz1⟩ : ∃ q, erF r.good = q := ⟨_, rfl⟩
  rw [hE, hz1] at hrv
  rw [hE, hz1] at hgd
  clear hE hz1
  have iA := rv_info hr
  have zA := rv_sizes rv0_ok hr
  have oneA := all_oneCell_toArray (one_rv r)
  have hzR := rvZ
  have hqA := fun w => rv_eq hr hr w
  rw [eqV_iff.2 rfl] at hqA
  unfold rvv EncP at hrv
  unfold rvv lgv
  have hrr : rvv r = .agg r.cells.toArray := rfl
  obtain ⟨cs, hcs⟩ : ∃ q, r.cells.toArray = q := ⟨_, rfl⟩
  rw [hcs] at hrv iA zA oneA hqA hrr ⊢
  clear hcs
  obtain ⟨z0, hz0⟩ : ∃ q, rv0.cells.toArray = q := ⟨_, rfl⟩
  have i0 := rv_info rv0_ok
  have zz := rv_sizes rv0_ok rv0_ok
  have one0 := all_oneCell_toArray (one_rv rv0)
  have hr0 : rvv rv0 = .agg z0 := by rw [← hz0]; rfl
  rw [hz0] at hzR zA i0 zz one0
  have HRV := Lib.hid hrv
  have HGD := Lib.hid hgd
  have HQA := Lib.hid hqA
  have HRR := Lib.hid (And.intro hrr hr0)
  clear hrv hgd hqA hrr hr0 hz0
  have hgl : (goodL next l = false ∧ erF (goodL next l) = 11) ∨ (goodL next l = true ∧ erF (goodL next l) = 0 ∧ (encL next l).length = 3 + n * 34 ∧ isL (encL next l) = true ∧ nextOf (encL next l) = next ∧ logOf (encL next l) = l ∧ isL (encL next l ++ [0]) = false) := by
    cases hg : goodL next l
    · exact .inl ⟨rfl, rfl⟩
    · have e : encL next l = bytesL next l := by unfold encL; rw [hg, if_pos rfl]
      obtain ⟨q1, q2, q3⟩ := log_back hg hl.ok
      rw [e]
      exact .inr ⟨rfl, rfl, by rw [bytesL_len hl.ok, hl.len], q1, q2, q3, log_more hg hl.ok 0⟩
  obtain ⟨E2, hE2⟩ : ∃ q, encL next l = q := ⟨_, rfl⟩
  obtain ⟨z3, hz3⟩ : ∃ q, erF (goodL next l) = q := ⟨_, rfl⟩
  rw [hE2, hz3] at hgl
  have HGL := Lib.hid hgl
  have HEL := Lib.hid (And.intro hE2 hz3)
  clear hgl hE2 hz3
  go_enter Try.func7, Try.ntmps7
  go_upto_region 1 with (fail)
  obtain ⟨W, hW⟩ : ∃ W, (w.alloc (.cells cs 43)).alloc (.cells #[.int .i64 next, .slice A n c] 46) = W := ⟨_, rfl⟩
  try rw [hW]
  have a3 : W.heap[w.heap.size]? = some (.cells cs 43) := by rw [← hW]; exact (Below.heap_alloc _ _ _ (by simp)).trans (heap_alloc_new _ _)
  have a4 : W.heap[w.heap.size + 1]? = some (.cells #[.int .i64 next, .slice A n c] 46) := by rw [← hW]; exact heap_alloc_two _ _ _
  have hB : Below w.heap.size w W := by rw [← hW]; exact ((Below.refl _ _).alloc (Nat.le_refl _) _).alloc (by simp) _
  clear hW
  replace hl := hl.next hB
  replace hs := hs.next hB
  have c1 : W.cell? ⟨w.heap.size + 1, 1, none⟩ = some (.slice A n c) := blk_cell a4 rfl
  go_upto_region 3 with (fail)
  clear c1
  refine wp_region_lit ?_
  refine wpList_load_row rfl 43 (.tmp 3) rfl _ rfl _ cs (0, 0) _ a3 Try.underlying43 rfl iA ?_
  (try simp only [Act.put, List.setIfInBounds_toArray, List.set_cons_zero, List.set_cons_succ])
  go_wp2_with fail
  refine Calls.mono (HRV.out _) ?_
  rintro e Y3 ⟨A7, n7, c7, rfl, hn7, hnc7, hcm7, -, s7, hb⟩
  have HN7 := Lib.hid hn7
  clear hn7
  replace a3 := bBlk hb (Array.getElem?_eq_some_iff.1 a3).1 a3
  replace a4 := bBlk hb (Array.getElem?_eq_some_iff.1 a4).1 a4
  replace hl := hl.next hb
  replace hs := hs.next hb
  replace hB := bNext hB hb
  clear hb
  go_upto_if 43 with (fail)
  go_cut [9, 10, 11, 12] from 43 to 73 (fun s9 s10 s11 s12 wx => Below Y3.heap.size Y3 wx)
  case first =>
    rcases HGD.out with ⟨-, rfl⟩ | ⟨-, rfl, -, e101, hir, hrf⟩
    · go_wp2_with fail
      go_meet
      exact Below.refl _ _
    obtain rfl : n7 = 101 := HN7.out.trans e101
    have hd := dec_any (c := c7) Y3 s7 (Nat.le_refl _) hnc7
    unfold RDec at hd
    rw [hrf, hir, HRR.out.1, erT] at hd
    go_wp2_with fail
    refine Calls.mono hd ?_
    rintro e V5 ⟨rfl, hb⟩
    clear hd
    have hC := Below.refl Y3.heap.size Y3
    replace a3 := bBlk hb (Array.getElem?_eq_some_iff.1 a3).1 a3
    replace a4 := bBlk hb (Array.getElem?_eq_some_iff.1 a4).1 a4
    replace hl := hl.next hb
    replace hs := hs.next hb
    replace s7 := s7.next hb
    replace hB := bNext hB hb
    replace hC := bNext hC hb
    clear hb
    obtain ⟨Y5, hY, a9, bY⟩ := newRow V5 z0 cs 43
    replace a3 := bBlk bY (Array.getElem?_eq_some_iff.1 a3).1 a3
    replace a4 := bBlk bY (Array.getElem?_eq_some_iff.1 a4).1 a4
    replace hl := hl.next bY
    replace hs := hs.next bY
    replace s7 := s7.next bY
    replace hB := bNext hB bY
    replace hC := bNext hC bY
    clear bY
    go_upto_region 6 with (first
      | (refine wpList_new rfl hzR rfl ?_)
      | (refine wpList_store_row rfl 43 (.tmp 9) (.tmp 47) rfl _ cs rfl rfl _ z0 (heap_alloc_new _ _) iA zA oneA ?_)
      | fail)
    try rw [hY]
    clear hY
    have hE1 : bvs E ++ [Value.int .u8 0] = bvs (E ++ [0]) := by rw [bvs_append]; rfl
    have hmr := more_rev e101 0
    have hbx : ∀ X : Obj, Below Y5.heap.size Y5 (Y5.alloc X) := fun X => (Below.refl _ Y5).alloc (Nat.le_refl _) X
    go_wp2_with (first
      | (at_builtin; refine wpList_app _ rfl (.tmp 50) (.tmp 51) 24 rfl (base := Y5.heap.size) Try.underlying24 elemC rfl (own_empty2 (by simp) (by omega)) rfl (s7.below (hbx _)) (oneCell_bvs _) (by simp only [maxLen] at *; omega) (by simp only [maxLen] at *; omega) (by simp <;> omega) ?_; intro A52 c52 w52 hown hg hb hat; simp only [Nat.zero_add, List.nil_append] at hown ⊢)
      | (at_builtin; refine wpList_app _ rfl (.tmp 52) (.tmp 53) 24 rfl (base := Y5.heap.size) Try.underlying24 elemC rfl (hown.alloc _) rfl (Sl.new (n := 1) (heap_alloc_new _ _) rfl) (by simp [Value.oneCell']) (by simp only [maxLen] at *; omega) (by simp only [maxLen] at *; omega) (by have := hb.size; simp at this; simp <;> omega) ?_; intro A54 c54 w54 hown4 hg4 hb4 hat4)
      | fail)
  
    replace hb := ((hbx _).trans hb).trans (((Below.refl _ w52).alloc (((hbx _).trans hb).size) _).trans hb4)
    have hso := Sl.of_own hown4
    rw [hE1] at hso
    obtain ⟨Ax, cx, ex, hcx⟩ := own_form hown4
    simp only [Value.slice.injEq] at ex
    obtain ⟨rfl, -, rfl⟩ := ex
    clear hown hg hat hown4 hg4 hb4 hat4 hbx
    replace a3 := bBlk hb (Array.getElem?_eq_some_iff.1 a3).1 a3
    replace a4 := bBlk hb (Array.getElem?_eq_some_iff.1 a4).1 a4
    replace hl := hl.next hb
    replace hs := hs.next hb
    replace s7 := s7.next hb
    replace a9 := bBlk hb (Array.getElem?_eq_some_iff.1 a9).1 a9
    replace hB := bNext hB hb
    replace hC := bNext hC hb
    clear hb
    have hd := dec_any w54 hso (Nat.le_refl _) hcx.1
    unfold RDec at hd
    rw [hmr.2, hmr.1, HRR.out.2, erN] at hd
    clear hso hcx
    refine Calls.mono hd ?_
    rintro e V6 ⟨rfl, hb⟩
    clear hd
    replace a3 := bBlk hb (Array.getElem?_eq_some_iff.1 a3).1 a3
    replace a4 := bBlk hb (Array.getElem?_eq_some_iff.1 a4).1 a4
    replace hl := hl.next hb
    replace hs := hs.next hb
    replace s7 := s7.next hb
    replace a9 := bBlk hb (Array.getElem?_eq_some_iff.1 a9).1 a9
    replace hB := bNext hB hb
    replace hC := bNext hC hb
    clear hb
    obtain ⟨Y6, hY, a11, bY⟩ := newRow V6 z0 z0 43
    replace a3 := bBlk bY (Array.getElem?_eq_some_iff.1 a3).1 a3
    replace a4 := bBlk bY (Array.getElem?_eq_some_iff.1 a4).1 a4
    replace hl := hl.next bY
    replace hs := hs.next bY
    replace s7 := s7.next bY
    replace a9 := bBlk bY (Array.getElem?_eq_some_iff.1 a9).1 a9
    replace hB := bNext hB bY
    replace hC := bNext hC bY
    clear bY
    go_upto_region 7 with (first
      | (refine wpList_new rfl hzR rfl ?_)
      | (refine wpList_store_row rfl 43 (.tmp 11) (.tmp 56) rfl _ z0 rfl rfl _ z0 (heap_alloc_new _ _) i0 rfl one0 ?_)
      | fail)
    try rw [hY]
    clear hY
    have hq := HQA.out
    go_wp2_with (first
      | (refine wpList_load_row_g (o := ⟨some 66, _, _, _, _, _⟩) (by rfl) 43 (.tmp 9) rfl _ rfl _ cs (0, 0) _ a9 Try.underlying43 rfl iA ?_)
      | (refine wpList_load_row_g (o := ⟨some 67, _, _, _, _, _⟩) (by rfl) 43 (.tmp 3) rfl _ rfl _ cs (0, 0) _ a3 Try.underlying43 rfl iA ?_)
      | fail)
    go_meet
    exact hC
  case rest =>
  have hb := hcut
  replace a3 := bBlk hb (Array.getElem?_eq_some_iff.1 a3).1 a3
  replace a4 := bBlk hb (Array.getElem?_eq_some_iff.1 a4).1 a4
  replace hl := hl.next hb
  replace hs := hs.next hb
  replace s7 := s7.next hb
  replace hB := bNext hB hb
  clear hb
  go_upto_region 9 with (fail)
  have hg := log_any (next := next) wc hl (Nat.le_refl _)
  unfold EncP lgv at hg
  rw [HEL.out.1, HEL.out.2] at hg
  refine wp_region_lit ?_
  refine wpList_load_row rfl 46 (.tmp 4) rfl _ rfl _ #[.int .i64 next, .slice A n c] (0, 0) _ a4 Try.underlying46 rfl (lg_info _ _) ?_
  (try simp only [Act.put, List.setIfInBounds_toArray, List.set_cons_zero, List.set_cons_succ])
  go_wp2_with fail
  refine Calls.mono hg ?_
  rintro e Y9 ⟨A13, n13, c13, rfl, hn13, hnc13, hcm13, -, s13, hb⟩
  clear hg
  have HN13 := Lib.hid hn13
  clear hn13
  replace a3 := bBlk hb (Array.getElem?_eq_some_iff.1 a3).1 a3
  replace a4 := bBlk hb (Array.getElem?_eq_some_iff.1 a4).1 a4
  replace hl := hl.next hb
  replace hs := hs.next hb
  replace s7 := s7.next hb
  replace hB := bNext hB hb
  clear hb
  go_upto_if 80 with (fail)
  go_cut [15, 16, 17, 18] from 80 to 116 (fun s15 s16 s17 s18 wx => Below Y9.heap.size Y9 wx)
  case first =>
    rcases HGL.out with ⟨-, rfl⟩ | ⟨-, rfl, eln, hil, hnx, hlo, hmo⟩
    · go_wp2_with fail
      go_meet
      exact Below.refl _ _
    have hd := ldec_any (c := c13) Y9 s13 (Nat.le_refl _) hnc13 hcm13
    unfold LDec lgv at hd
    rw [hil, hnx, hlo, erT] at hd
    go_wp2_with fail
    refine Calls.mono hd ?_
    rintro e V11 ⟨A15, n15, c15, rfl, l15, -, hb⟩
    clear hd
    obtain rfl : n15 = n := l15.len.symm.trans hl.len
    have hC := Below.refl Y9.heap.size Y9
    replace a3 := bBlk hb (Array.getElem?_eq_some_iff.1 a3).1 a3
    replace a4 := bBlk hb (Array.getElem?_eq_some_iff.1 a4).1 a4
    replace hl := hl.next hb
    replace hs := hs.next hb
    replace s7 := s7.next hb
    replace s13 := s13.next hb
    replace hB := bNext hB hb
    replace hC := bNext hC hb
    clear hb
    obtain ⟨Y11, hY, a15, bY⟩ := newRow V11 #[.int .i64 0, .slice none 0 0] #[.int .i64 next, .slice A15 n15 c15] 46
    replace a3 := bBlk bY (Array.getElem?_eq_some_iff.1 a3).1 a3
    replace a4 := bBlk bY (Array.getElem?_eq_some_iff.1 a4).1 a4
    replace hl := hl.next bY
    replace hs := hs.next bY
    replace s7 := s7.next bY
    replace s13 := s13.next bY
    replace l15 := l15.next bY
    replace hB := bNext hB bY
    replace hC := bNext hC bY
    clear bY
    go_upto_region 12 with (first
      | (refine wpList_new rfl lgZ rfl ?_)
      | (refine wpList_store_row rfl 46 (.tmp 15) (.tmp 84) rfl _ #[.int .i64 next, .slice A15 n15 c15] rfl rfl _ #[.int .i64 0, .slice none 0 0] (heap_alloc_new _ _) (lg_info _ _) rfl (one_lg _ _ _ _) ?_)
      | fail)
    try rw [hY]
    clear hY
    have hE1 : bvs E2 ++ [Value.int .u8 0] = bvs (E2 ++ [0]) := by rw [bvs_append]; rfl
    have hbx : ∀ X : Obj, Below Y11.heap.size Y11 (Y11.alloc X) := fun X => (Below.refl _ Y11).alloc (Nat.le_refl _) X
    have h13 : n13 ≤ 2000 := by have := HN13.out; omega
    go_wp2_with (first
      | (at_builtin; refine wpList_app _ rfl (.tmp 87) (.tmp 88) 24 rfl (base := Y11.heap.size) Try.underlying24 elemC rfl (own_empty2 (by simp) (by omega)) rfl (s13.below (hbx _)) (oneCell_bvs _) (by simp only [maxLen] at *; omega) (by simp only [maxLen] at *; omega) (by simp <;> omega) ?_; intro A89 c89 w89 hown hg hb hat; simp only [Nat.zero_add, List.nil_append] at hown ⊢)
      | (at_builtin; refine wpList_app _ rfl (.tmp 89) (.tmp 90) 24 rfl (base := Y11.heap.size) Try.underlying24 elemC rfl (hown.alloc _) rfl (Sl.new (n := 1) (heap_alloc_new _ _) rfl) (by simp [Value.oneCell']) (by simp only [maxLen] at *; omega) (by simp only [maxLen] at *; omega) (by have := hb.size; simp at this; simp <;> omega) ?_; intro A91 c91 w91 hown4 hg4 hb4 hat4)
      | fail)
    replace hb := ((hbx _).trans hb).trans (((Below.refl _ w89).alloc (((hbx _).trans hb).size) _).trans hb4)
    have hso := Sl.of_own hown4
    rw [hE1] at hso
    obtain ⟨Ax, cx, ex, hcx⟩ := own_form hown4
    simp only [Value.slice.injEq] at ex
    obtain ⟨rfl, -, rfl⟩ := ex
    clear hown hg hat hown4 hg4 hb4 hat4 hbx
    replace a3 := bBlk hb (Array.getElem?_eq_some_iff.1 a3).1 a3
    replace a4 := bBlk hb (Array.getElem?_eq_some_iff.1 a4).1 a4
    replace hl := hl.next hb
    replace hs := hs.next hb
    replace s7 := s7.next hb
    replace s13 := s13.next hb
    replace l15 := l15.next hb
    replace a15 := bBlk hb (Array.getElem?_eq_some_iff.1 a15).1 a15
    replace hB := bNext hB hb
    replace hC := bNext hC hb
    clear hb
    have hd := ldec_any w91 hso (Nat.le_refl _) hcx.1 hcx.2
    unfold LDec lgv at hd
    rw [hmo, (none_log hmo).1, (none_log hmo).2, erN] at hd
    clear hso hcx
    refine Calls.mono hd ?_
    rintro e V12 ⟨A17, n17, c17, rfl, -, -, hb⟩
    clear hd
    replace a3 := bBlk hb (Array.getElem?_eq_some_iff.1 a3).1 a3
    replace a4 := bBlk hb (Array.getElem?_eq_some_iff.1 a4).1 a4
    replace hl := hl.next hb
    replace hs := hs.next hb
    replace s7 := s7.next hb
    replace s13 := s13.next hb
    replace l15 := l15.next hb
    replace a15 := bBlk hb (Array.getElem?_eq_some_iff.1 a15).1 a15
    replace hB := bNext hB hb
    replace hC := bNext hC hb
    clear hb
    obtain ⟨Y12, hY, a17, bY⟩ := newRow V12 #[.int .i64 0, .slice none 0 0] #[.int .i64 0, .slice A17 n17 c17] 46
    replace a3 := bBlk bY (Array.getElem?_eq_some_iff.1 a3).1 a3
    replace a4 := bBlk bY (Array.getElem?_eq_some_iff.1 a4).1 a4
    replace hl := hl.next bY
    replace hs := hs.next bY
    replace s7 := s7.next bY
    replace s13 := s13.next bY
    replace l15 := l15.next bY
    replace a15 := bBlk bY (Array.getElem?_eq_some_iff.1 a15).1 a15
    replace hB := bNext hB bY
    replace hC := bNext hC bY
    clear bY
    go_upto_region 13 with (first
      | (refine wpList_new rfl lgZ rfl ?_)
      | (refine wpList_store_row rfl 46 (.tmp 17) (.tmp 93) rfl _ #[.int .i64 0, .slice A17 n17 c17] rfl rfl _ #[.int .i64 0, .slice none 0 0] (heap_alloc_new _ _) (lg_info _ _) rfl (one_lg _ _ _ _) ?_)
      | fail)
    try rw [hY]
    clear hY
    have hsm := same_any (na := next) (nb := next) Y12 l15 hl (Nat.le_refl _) (Nat.le_refl _) (by omega)
    rw [show sameB next l next l = true from decide_eq_true ⟨rfl, rfl⟩] at hsm
    unfold lgv at hsm
    have c1 : Y12.cell? ⟨w.heap.size + 1, 1, none⟩ = some (.slice A n15 c) := blk_cell a4 rfl
    have l4 := (Array.getElem?_eq_some_iff.1 a4).1
    have e13 : (n13 : Int) = 3 + 34 * (n15 : Int) := by have := HN13.out; omega
    have w1 : IntKind.i64.wrap (34 * (n15 : Int)) = 34 * (n15 : Int) := wrap_small _ (by omega) (by omega)
    have w2 : IntKind.i64.wrap (3 + 34 * (n15 : Int)) = 3 + 34 * (n15 : Int) := wrap_small _ (by omega) (by omega)
    go_wp2_with (first
      | (refine wpList_load_row_g (o := ⟨some 108, _, _, _, _, _⟩) (by rfl) 46 (.tmp 15) rfl _ rfl _ #[.int .i64 next, .slice A15 n15 c15] (0, 0) _ a15 Try.underlying46 rfl (lg_info _ _) ?_)
      | (refine wpList_load_row_g (o := ⟨some 109, _, _, _, _, _⟩) (by rfl) 46 (.tmp 4) rfl _ rfl _ #[.int .i64 next, .slice A n15 c] (0, 0) _ a4 Try.underlying46 rfl (lg_info _ _) ?_)
      | (go_at_call 30; (with_reducible refine Calls.mono hsm ?_); clear hsm; rintro e Z1 ⟨rfl, hc1⟩)
      | fail)
    go_meet
    exact bNext hC hc1
  case rest =>
  have hb := hcut
  replace a3 := bBlk hb (Array.getElem?_eq_some_iff.1 a3).1 a3
  replace a4 := bBlk hb (Array.getElem?_eq_some_iff.1 a4).1 a4
  replace hl := hl.next hb
  replace hs := hs.next hb
  replace s7 := s7.next hb
  replace s13 := s13.next hb
  replace hB := bNext hB hb
  clear hb
  go_upto_region 15 with (fail)
  clear HGD HGL HN13 HN7 s7 s13 HRV HEL
  have oD := rvOf_ok b
  have hbr := back_r b
  have hbl := back_l b
  have hrv := fun W => rev_any oD W
  have hlg := fun (W : World) (A : Option Addr) (n c : Nat) (h : LgAt W W.heap.size A n c (logOf b)) => log_any (next := nextOf b) W h (Nat.le_refl _)
  have hd := dec_any wc hs (Nat.le_refl _) hc0
  have hld := fun (W : World) (h : Sl W W.heap.size 1 A0 n0 (bvs b)) => ldec_any W h (Nat.le_refl _) hc0 hcm0
  unfold RDec at hd
  unfold LDec lgv at hld
  unfold EncP at hrv
  unfold EncP lgv at hlg
  have iD := rv_info oD
  have zD := rv_sizes rv0_ok oD
  have oneD := all_oneCell_toArray (one_rv (rvOf b))
  have hq0 := fun w => rv_eq rv0_ok rv0_ok w
  rw [eqV_iff.2 rfl] at hq0
  have hDv : rvv (rvOf b) = .agg (rvOf b).cells.toArray := rfl
  have hD0 : rvOf b = rv0 → (rvOf b).cells.toArray = rv0.cells.toArray := fun h => by rw [h]
  obtain ⟨cD, hcD⟩ : ∃ q, (rvOf b).cells.toArray = q := ⟨_, rfl⟩
  rw [hcD] at hDv iD zD oneD hD0
  rw [hDv] at hd
  have hrv' := hrv
  rw [hDv] at hrv'
  clear hrv hDv hcD
  obtain ⟨z2, hz2⟩ : ∃ q, erF (isR b) = q := ⟨_, rfl⟩
  obtain ⟨z4, hz4⟩ : ∃ q, erF (isL b) = q := ⟨_, rfl⟩
  obtain ⟨z5, hz5⟩ : ∃ q, erF (rvOf b).good = q := ⟨_, rfl⟩
  obtain ⟨z6, hz6⟩ : ∃ q, erF (goodL (nextOf b) (logOf b)) = q := ⟨_, rfl⟩
  obtain ⟨E5, hE5⟩ : ∃ q, (rvOf b).enc = q := ⟨_, rfl⟩
  obtain ⟨E6, hE6⟩ : ∃ q, encL (nextOf b) (logOf b) = q := ⟨_, rfl⟩
  obtain ⟨N, hN⟩ : ∃ q, nextOf b = q := ⟨_, rfl⟩
  rw [hz2] at hd hbr
  rw [hz4] at hld hbl
  rw [hz5, hE5] at hrv' hbr
  rw [hz6, hE6] at hlg hbl
  rw [hN] at hld hbl hlg
  have hbr' : (z2 = 11 ∧ cD = rv0.cells.toArray) ∨ (z2 = 0 ∧ z5 = 0 ∧ E5 = b) := hbr.imp (fun h => ⟨h.1, hD0 h.2⟩) id
  have HBR := Lib.hid hbr'
  have HBL := Lib.hid hbl
  have HRVD := Lib.hid hrv'
  have HLGD := Lib.hid hlg
  have HLD := Lib.hid hld
  clear hbr hbr' hbl hrv' hlg hld hz2 hz4 hz5 hz6 hE5 hE6 hN hD0 oD
  obtain ⟨z00, hz00⟩ : ∃ q, rv0.cells.toArray = q := ⟨_, rfl⟩
  have hzR2 := rvZ
  rw [hz00] at hzR2 zD
  have HZ00 := Lib.hid (And.intro hz00 hq0)
  clear hz00 hq0
  go_wp2_with fail
  refine Calls.mono hd ?_
  rintro e V15 ⟨rfl, hb⟩
  clear hd
  replace a3 := bBlk hb (Array.getElem?_eq_some_iff.1 a3).1 a3
  replace a4 := bBlk hb (Array.getElem?_eq_some_iff.1 a4).1 a4
  replace hl := hl.next hb
  replace hs := hs.next hb
  replace hB := bNext hB hb
  clear hb
  obtain ⟨Y15, hY, a19, bY⟩ := newRow V15 z00 cD 43
  replace a3 := bBlk bY (Array.getElem?_eq_some_iff.1 a3).1 a3
  replace a4 := bBlk bY (Array.getElem?_eq_some_iff.1 a4).1 a4
  replace hl := hl.next bY
  replace hs := hs.next bY
  replace hB := bNext hB bY
  clear bY
  go_upto_region 16 with (first
    | (refine wpList_new rfl hzR2 rfl ?_)
    | (refine wpList_store_row rfl 43 (.tmp 19) (.tmp 120) rfl _ cD rfl rfl _ z00 (heap_alloc_new _ _) iD zD oneD ?_)
    | fail)
  try rw [hY]
  clear hY
  have hd := HLD.out _ hs
  go_wp2_with fail
  refine Calls.mono hd ?_
  rintro e V16 ⟨A21, n21, c21, rfl, l21, -, hb⟩
  clear hd
  replace a3 := bBlk hb (Array.getElem?_eq_some_iff.1 a3).1 a3
  replace a4 := bBlk hb (Array.getElem?_eq_some_iff.1 a4).1 a4
  replace hl := hl.next hb
  replace hs := hs.next hb
  replace a19 := bBlk hb (Array.getElem?_eq_some_iff.1 a19).1 a19
  replace hB := bNext hB hb
  clear hb
  obtain ⟨Y16, hY, a21, bY⟩ := newRow V16 #[.int .i64 0, .slice none 0 0] #[.int .i64 N, .slice A21 n21 c21] 46
  replace a3 := bBlk bY (Array.getElem?_eq_some_iff.1 a3).1 a3
  replace a4 := bBlk bY (Array.getElem?_eq_some_iff.1 a4).1 a4
  replace hl := hl.next bY
  replace hs := hs.next bY
  replace a19 := bBlk bY (Array.getElem?_eq_some_iff.1 a19).1 a19
  replace l21 := l21.next bY
  replace hB := bNext hB bY
  clear bY
  go_upto_region 17 with (first
    | (refine wpList_new rfl lgZ rfl ?_)
    | (refine wpList_store_row rfl 46 (.tmp 21) (.tmp 125) rfl _ #[.int .i64 N, .slice A21 n21 c21] rfl rfl _ #[.int .i64 0, .slice none 0 0] (heap_alloc_new _ _) (lg_info _ _) rfl (one_lg _ _ _ _) ?_)
    | fail)
  try rw [hY]
  clear hY
  refine wp_region_lit ?_
  refine wpList_load_row rfl 43 (.tmp 19) rfl _ rfl _ cD (0, 0) _ a19 Try.underlying43 rfl iD ?_
  (try simp only [Act.put, List.setIfInBounds_toArray, List.set_cons_zero, List.set_cons_succ])
  go_wp2_with fail
  refine Calls.mono (HRVD.out _) ?_
  rintro e Y17 ⟨A23, n23, c23, rfl, hn23, -, -, -, s23, hb⟩
  subst hn23
  replace a3 := bBlk hb (Array.getElem?_eq_some_iff.1 a3).1 a3
  replace a4 := bBlk hb (Array.getElem?_eq_some_iff.1 a4).1 a4
  replace hl := hl.next hb
  replace hs := hs.next hb
  replace a19 := bBlk hb (Array.getElem?_eq_some_iff.1 a19).1 a19
  replace l21 := l21.next hb
  replace a21 := bBlk hb (Array.getElem?_eq_some_iff.1 a21).1 a21
  replace hB := bNext hB hb
  clear hb
  go_upto_region 18 with (first
    | fail)
  have hg := HLGD.out _ _ _ _ l21
  refine wp_region_lit ?_
  refine wpList_load_row rfl 46 (.tmp 21) rfl _ rfl _ #[.int .i64 N, .slice A21 n21 c21] (0, 0) _ a21 Try.underlying46 rfl (lg_info _ _) ?_
  (try simp only [Act.put, List.setIfInBounds_toArray, List.set_cons_zero, List.set_cons_succ])
  go_wp2_with fail
  refine Calls.mono hg ?_
  rintro e Y18 ⟨A25, n25, c25, rfl, hn25, -, -, -, s25, hb⟩
  subst hn25
  clear hg
  replace a3 := bBlk hb (Array.getElem?_eq_some_iff.1 a3).1 a3
  replace a4 := bBlk hb (Array.getElem?_eq_some_iff.1 a4).1 a4
  replace hl := hl.next hb
  replace hs := hs.next hb
  replace a19 := bBlk hb (Array.getElem?_eq_some_iff.1 a19).1 a19
  replace l21 := l21.next hb
  replace a21 := bBlk hb (Array.getElem?_eq_some_iff.1 a21).1 a21
  replace s23 := s23.next hb
  replace hB := bNext hB hb
  clear hb
  go_upto_region 19 with (first
    | fail)
  have k21 : Y18.cell? ⟨V16.heap.size, 0, none⟩ = some (.int .i64 N) := blk_cell a21 rfl
  have l21' := (Array.getElem?_eq_some_iff.1 a21).1
  have hzv := fun w => run_zero hzR2 w
  have hq := HZ00.out.2
  rw [HZ00.out.1] at hq
  clear HRVD HLGD HLD HQA HRR
  rcases HBR.out with ⟨rfl, hcd⟩ | ⟨rfl, rfl, h5⟩
  · obtain rfl : z00 = cD := (hcd.trans HZ00.out.1).symm
    clear hcd
    rcases HBL.out with ⟨rfl, rfl⟩ | ⟨rfl, rfl, h6⟩
    · clear HBL HBR HZ00
      go_wp2_with (first
        | (refine wpList_load_row_g (o := ⟨some 140, _, _, _, _, _⟩) (by rfl) 43 (.tmp 19) rfl _ rfl _ z00 (0, 0) _ a19 Try.underlying43 rfl iD ?_)
        | (go_at_call 18; refine Calls.mono (wakes24_any _) ?_; rintro e W3 ⟨rfl, hb3⟩)
        | fail)
      go_ret
      exact Ret.mk rfl (bNext hB hb3)
    · subst h6
      have hb6 := fun c c' => bytes_eqT (c := c) (c' := c') Y18 s25 hs
      clear HBL HBR HZ00
      go_wp2_with (first
        | (refine wpList_load_row_g (o := ⟨some 140, _, _, _, _, _⟩) (by rfl) 43 (.tmp 19) rfl _ rfl _ z00 (0, 0) _ a19 Try.underlying43 rfl iD ?_)
        | (go_at_call 17; (with_reducible refine Calls.mono (hb6 _ _) ?_); clear hb6; rintro e w' ⟨rfl, rfl⟩)
        | (go_at_call 18; refine Calls.mono (wakes24_any _) ?_; rintro e W3 ⟨rfl, hb3⟩)
        | fail)
      go_ret
      exact Ret.mk rfl (bNext hB hb3)
  · -- decoded
    subst h5
    have hb5 := fun c c' => bytes_eqT (c := c) (c' := c') Y18 s23 hs
    rcases HBL.out with ⟨rfl, rfl⟩ | ⟨rfl, rfl, h6⟩
    · clear HBL HBR HZ00
      go_wp2_with (first
        | (refine wpList_load_row_g (o := ⟨some 140, _, _, _, _, _⟩) (by rfl) 43 (.tmp 19) rfl _ rfl _ z00 (0, 0) _ a19 Try.underlying43 rfl iD ?_)
        | (go_at_call 17; (with_reducible refine Calls.mono (hb5 _ _) ?_); clear hb5; rintro e w' ⟨rfl, rfl⟩)
        | (go_at_call 18; refine Calls.mono (wakes24_any _) ?_; rintro e W3 ⟨rfl, hb3⟩)
        | fail)
      go_ret
      exact Ret.mk rfl (bNext hB hb3)
    · subst h6
      have hb6 := fun c c' => bytes_eqT (c := c) (c' := c') Y18 s25 hs
      clear HBL HBR HZ00
      go_wp2_with (first
        | (refine wpList_load_row_g (o := ⟨some 140, _, _, _, _, _⟩) (by rfl) 43 (.tmp 19) rfl _ rfl _ z00 (0, 0) _ a19 Try.underlying43 rfl iD ?_)
        | (go_at_call 17; (with_reducible refine Calls.mono (hb5 _ _) ?_); clear hb5; rintro e w' ⟨rfl, rfl⟩)
        | (go_at_call 17; (with_reducible refine Calls.mono (hb6 _ _) ?_); clear hb6; rintro e w' ⟨rfl, rfl⟩)
        | (go_at_call 18; refine Calls.mono (wakes24_any _) ?_; rintro e W3 ⟨rfl, hb3⟩)
        | fail)
      go_ret
      exact Ret.mk rfl (bNext hB hb3)
end Go.Proofs.Ytjfkaebikmnnaaa
