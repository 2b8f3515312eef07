/- The walk over RevisionCodes. (s6/revcodes.py writes it.) -/
import Derived.Test.YtjfkaebikmnnaaaRevWakes
import Derived.Test.YtjfkaebikmnnaaaRevArg
import Derived.Test.YtjfkaebikmnnaaaRevBig
namespace Go.Proofs.Ytjfkaebikmnnaaa
set_option linter.unusedSimpArgs false
set_option linter.unusedVariables false
open Go.RowKit Go.ChangeShapes Go.WideShapes Go.Sort

theorem LgAt.next {w w' : World} {A : Option Addr} {n c : Nat} {l : List LE} (h : LgAt w w.heap.size A n c l) (hb : Below w.heap.size w w') : LgAt w' w'.heap.size A n c l := ⟨h.ok, h.len, h.sl.next hb, h.cap⟩
theorem own_empty2 {w : World} {e : TypeId} {g base : Nat} (hg : g = w.heap.size) (hb : base ≤ g) : (w.alloc (.cells #[] e)).ownsRow base e 1 (.slice (some ⟨g, 0, none⟩) 0 0) 0 [] :=
  ⟨rfl, .inr ⟨g, 0, #[], rfl, hb, by rw [hg]; exact heap_alloc_new _ _, Nat.le_refl _, by simp [maxLen], rfl, rfl⟩⟩
theorem logOf_small (b : List UInt8) : (logOf b).length ≤ 8 := by
  unfold logOf
  cases h : isL b
  · simp
  · unfold isL goodL at h
    simp only [Bool.and_eq_true, decide_eq_true_eq] at h
    rw [if_pos rfl]
    exact h.2.1.2.2
attribute [-go_sem] Builtin.append_
set_option maxHeartbeats 16000000 in
set_option maxRecDepth 100000 in
theorem revCodes_core {r : RV} (hr : r.Ok) {next : Int} {A : Option Addr} {n c : Nat} {l : List LE} {A0 : Option Addr} {n0 c0 : Nat} {b : List UInt8} (w : World) (hl : LgAt w w.heap.size A n c l) (hcm : c ≤ maxLen) (hn : n ≤ 50)
    (hs : Sl w w.heap.size 1 A0 n0 (bvs b)) (h0 : n0 ≤ 1000) (hc0 : n0 ≤ c0) (hcm0 : c0 ≤ maxLen) : Calls Try.prog 6 #[rvv r, lgv next A n c, .slice A0 n0 c0] w (Ret w (.bool true)) := by
  have hrv := fun W => rev_any hr W
  have hrrv := fun W => rrev_any hr W
  obtain ⟨E, hE⟩ : ∃ q, r.enc = q := ⟨_, rfl⟩
  obtain ⟨z1, hz1⟩ : ∃ q, erF r.good = q := ⟨_, rfl⟩
  rw [hE, hz1] at hrv hrrv
  clear hE hz1
  have iA := rv_info hr
  have kA := fun (W : World) (g : Nat) (h : W.heap[g]? = some (.cells r.cells.toArray 43)) => (RvAt.of hr h).c0
  unfold rvv EncP at hrv hrrv
  unfold rvv lgv
  obtain ⟨cs, hcs⟩ : ∃ q, r.cells.toArray = q := ⟨_, rfl⟩
  rw [hcs] at hrv hrrv iA kA ⊢
  clear hcs
  obtain ⟨num, hnum⟩ : ∃ q, r.num = q := ⟨_, rfl⟩
  rw [hnum] at kA
  clear hnum hr
  have HRV := Lib.hid hrv
  have HRR := Lib.hid hrrv
  have HKA := Lib.hid kA
  clear hrv hrrv kA
  have hd := rvOf_ok b
  obtain ⟨D, hD⟩ : ∃ q, rvOf b = q := ⟨_, rfl⟩
  obtain ⟨z2, hz2⟩ : ∃ q, erF (isR b) = q := ⟨_, rfl⟩
  rw [hD] at hd
  have iD := rv_info hd
  have zD := rv_sizes rv0_ok hd
  have oneD := one_rv D
  have hqD := fun w => rv_eq hd hd w
  rw [eqV_iff.2 rfl] at hqD
  have hzR := rvZ
  obtain ⟨cD, hcD⟩ : ∃ q, D.cells.toArray = q := ⟨_, rfl⟩
  have oneD' := all_oneCell_toArray oneD
  rw [hcD] at iD zD hqD oneD'
  have HDD := Lib.hid (And.intro hD (And.intro hcD hz2))
  have HQD := Lib.hid hqD
  obtain ⟨z0, hz0⟩ : ∃ q, rv0.cells.toArray = q := ⟨_, rfl⟩
  rw [hz0] at hzR zD
  clear hD hz2 hcD hqD hz0 oneD hd
  obtain ⟨E2, hE2⟩ : ∃ q, encL next l = q := ⟨_, rfl⟩
  obtain ⟨z3, hz3⟩ : ∃ q, erF (goodL next l) = q := ⟨_, rfl⟩
  obtain ⟨N, hN⟩ : ∃ q, nextOf b = q := ⟨_, rfl⟩
  obtain ⟨z4, hz4⟩ : ∃ q, erF (isL b) = q := ⟨_, rfl⟩
  have hsb := logOf_small b
  obtain ⟨lb, hlb⟩ : ∃ q, logOf b = q := ⟨_, rfl⟩
  rw [hlb] at hsb
  have HSB := Lib.hid hsb
  clear hsb
  obtain ⟨F, hF⟩ : ∃ q, fdx l num = q := ⟨_, rfl⟩
  obtain ⟨M, hM⟩ : ∃ q, max F 0 = q := ⟨_, rfl⟩
  obtain ⟨T, hT⟩ : ∃ q, decide (0 ≤ F) = q := ⟨_, rfl⟩
  have HLG := Lib.hid (And.intro hE2 (And.intro hz3 (And.intro hN (And.intro hz4 (And.intro hlb (And.intro hF (And.intro hM hT)))))))
  clear hE2 hz3 hN hz4 hlb hF hM hT
  go_enter Try.func6, Try.ntmps6
  go_upto_region 1 with (fail)
  obtain ⟨W, hW⟩ : ∃ W, (w.alloc (.cells cs 43)).alloc (.cells #[.int .i64 next, .slice A n c] 46) = W := ⟨_, rfl⟩
  try rw [hW]
  have a3 : W.heap[w.heap.size]? = some (.cells cs 43) := by rw [← hW]; exact (Below.heap_alloc _ _ _ (by simp)).trans (heap_alloc_new _ _)
  have a4 : W.heap[w.heap.size + 1]? = some (.cells #[.int .i64 next, .slice A n c] 46) := by rw [← hW]; exact heap_alloc_two _ _ _
  have hB : Below w.heap.size w W := by rw [← hW]; exact ((Below.refl _ _).alloc (Nat.le_refl _) _).alloc (by simp) _
  clear hW
  replace hl := hl.next hB
  replace hs := hs.next hB
  have c1 : W.cell? ⟨w.heap.size + 1, 1, none⟩ = some (.slice A n c) := blk_cell a4 rfl
  go_upto_region 3 with (fail)
  clear c1
  have how := own_any (next := next) W hl (Nat.le_refl _) (by omega)
  unfold lgv at how
  refine wp_region_lit ?_
  refine wpList_load_row rfl 46 (.tmp 4) rfl _ rfl _ #[.int .i64 next, .slice A n c] (0, 0) _ a4 Try.underlying46 rfl (lg_info _ _) ?_
  (try simp only [Act.put, List.setIfInBounds_toArray, List.set_cons_zero, List.set_cons_succ])
  go_wp2_with fail
  refine Calls.mono how ?_
  rintro e W3 ⟨A7, c7, rfl, l7, hb⟩
  clear how
  replace a3 := bBlk hb (Array.getElem?_eq_some_iff.1 a3).1 a3
  replace a4 := bBlk hb (Array.getElem?_eq_some_iff.1 a4).1 a4
  replace hl := hl.next hb
  replace hs := hs.next hb
  replace hB := bNext hB hb
  clear hb
  obtain ⟨Y3, hY, a7, bY⟩ := newRow W3 #[.int .i64 0, .slice none 0 0] #[.int .i64 next, .slice A7 n c7] 46
  replace a3 := bBlk bY (Array.getElem?_eq_some_iff.1 a3).1 a3
  replace a4 := bBlk bY (Array.getElem?_eq_some_iff.1 a4).1 a4
  replace hl := hl.next bY
  replace hs := hs.next bY
  replace l7 := l7.next bY
  replace hB := bNext hB bY
  clear bY
  go_upto_region 4 with (first
    | (refine wpList_new rfl lgZ rfl ?_)
    | (refine wpList_store_row rfl 46 (.tmp 7) (.tmp 38) rfl _ #[.int .i64 next, .slice A7 n c7] rfl rfl _ #[.int .i64 0, .slice none 0 0] (heap_alloc_new _ _) (lg_info _ _) rfl (one_lg _ _ _ _) ?_)
    | fail)
  try rw [hY]
  clear hY
  refine wp_region_lit ?_
  refine wpList_load_row rfl 43 (.tmp 3) rfl _ rfl _ cs (0, 0) _ a3 Try.underlying43 rfl iA ?_
  (try simp only [Act.put, List.setIfInBounds_toArray, List.set_cons_zero, List.set_cons_succ])
  go_wp2_with fail
  refine Calls.mono (HRV.out _) ?_
  rintro e Y4 ⟨A8, n8, c8, rfl, hn8, -, -, -, s8, hb⟩
  subst hn8
  replace a3 := bBlk hb (Array.getElem?_eq_some_iff.1 a3).1 a3
  replace a4 := bBlk hb (Array.getElem?_eq_some_iff.1 a4).1 a4
  replace hl := hl.next hb
  replace hs := hs.next hb
  replace l7 := l7.next hb
  replace a7 := bBlk hb (Array.getElem?_eq_some_iff.1 a7).1 a7
  replace hB := bNext hB hb
  clear hb
  go_upto_region 5 with (first
    | fail)
  refine wp_region_lit ?_
  refine wpList_load_row rfl 43 (.tmp 3) rfl _ rfl _ cs (0, 0) _ a3 Try.underlying43 rfl iA ?_
  (try simp only [Act.put, List.setIfInBounds_toArray, List.set_cons_zero, List.set_cons_succ])
  go_wp2_with fail
  refine Calls.mono (HRR.out _) ?_
  rintro e Y5 ⟨A10, n10, c10, rfl, hn10, -, -, -, s10, hb⟩
  subst hn10
  replace a3 := bBlk hb (Array.getElem?_eq_some_iff.1 a3).1 a3
  replace a4 := bBlk hb (Array.getElem?_eq_some_iff.1 a4).1 a4
  replace hl := hl.next hb
  replace hs := hs.next hb
  replace l7 := l7.next hb
  replace a7 := bBlk hb (Array.getElem?_eq_some_iff.1 a7).1 a7
  replace s8 := s8.next hb
  replace hB := bNext hB hb
  clear hb
  go_upto_region 6 with (first
    | fail)
  go_wp2_with (first
    | (at_builtin; refine wpList_app _ rfl (.tmp 50) (.tmp 51) 24 rfl (base := Y5.heap.size) Try.underlying24 elemC rfl (own_empty2 (by simp) (by omega)) rfl (hs.below ((Below.refl _ Y5).alloc (Nat.le_refl _) _)) (oneCell_bvs _) (by simp only [maxLen] at *; omega) (by simp only [maxLen] at *; omega) (by simp <;> omega) ?_; intro A52 c52 w52 hown hg hb hat; simp only [Nat.zero_add, List.nil_append] at hown ⊢)
    | fail)
  replace hb := Below.trans ((Below.refl _ Y5).alloc (Nat.le_refl _) _) hb
  have hso := Sl.of_own hown
  obtain ⟨Ax, cx, ex, hcx⟩ := own_form hown
  simp only [Value.slice.injEq] at ex
  obtain ⟨rfl, -, rfl⟩ := ex
  clear hown hg hat
  replace a3 := bBlk hb (Array.getElem?_eq_some_iff.1 a3).1 a3
  replace a4 := bBlk hb (Array.getElem?_eq_some_iff.1 a4).1 a4
  replace hl := hl.next hb
  replace hs := hs.next hb
  replace l7 := l7.next hb
  replace a7 := bBlk hb (Array.getElem?_eq_some_iff.1 a7).1 a7
  replace s8 := s8.next hb
  replace s10 := s10.next hb
  replace hB := bNext hB hb
  clear hb
  have hd := dec_any w52 hso (Nat.le_refl _) hcx.1
  clear hso hcx
  unfold RDec rvv at hd
  rw [HDD.out.1, HDD.out.2.1, HDD.out.2.2] at hd
  refine Calls.mono hd ?_
  rintro e V6 ⟨rfl, hb⟩
  clear hd
  replace a3 := bBlk hb (Array.getElem?_eq_some_iff.1 a3).1 a3
  replace a4 := bBlk hb (Array.getElem?_eq_some_iff.1 a4).1 a4
  replace hl := hl.next hb
  replace hs := hs.next hb
  replace l7 := l7.next hb
  replace a7 := bBlk hb (Array.getElem?_eq_some_iff.1 a7).1 a7
  replace s8 := s8.next hb
  replace s10 := s10.next hb
  replace hB := bNext hB hb
  clear hb
  obtain ⟨Y6, hY, a12, bY⟩ := newRow V6 z0 cD 43
  replace a3 := bBlk bY (Array.getElem?_eq_some_iff.1 a3).1 a3
  replace a4 := bBlk bY (Array.getElem?_eq_some_iff.1 a4).1 a4
  replace hl := hl.next bY
  replace hs := hs.next bY
  replace l7 := l7.next bY
  replace a7 := bBlk bY (Array.getElem?_eq_some_iff.1 a7).1 a7
  replace s8 := s8.next bY
  replace s10 := s10.next bY
  replace hB := bNext hB bY
  clear bY
  go_upto_region 7 with (first
    | (refine wpList_new rfl hzR rfl ?_)
    | (refine wpList_store_row rfl 43 (.tmp 12) (.tmp 54) rfl _ cD rfl rfl _ z0 (heap_alloc_new _ _) iD zD oneD' ?_)
    | fail)
  try rw [hY]
  clear hY
  go_wp2_with fail
  have hd := rdec_any Y6 hs (Nat.le_refl _) hc0
  unfold RDec rvv at hd
  rw [HDD.out.1, HDD.out.2.1, HDD.out.2.2] at hd
  refine Calls.mono hd ?_
  rintro e V7 ⟨rfl, hb⟩
  clear hd
  replace a3 := bBlk hb (Array.getElem?_eq_some_iff.1 a3).1 a3
  replace a4 := bBlk hb (Array.getElem?_eq_some_iff.1 a4).1 a4
  replace hl := hl.next hb
  replace hs := hs.next hb
  replace l7 := l7.next hb
  replace a7 := bBlk hb (Array.getElem?_eq_some_iff.1 a7).1 a7
  replace s8 := s8.next hb
  replace s10 := s10.next hb
  replace a12 := bBlk hb (Array.getElem?_eq_some_iff.1 a12).1 a12
  replace hB := bNext hB hb
  clear hb
  obtain ⟨Y7, hY, a14, bY⟩ := newRow V7 z0 cD 43
  replace a3 := bBlk bY (Array.getElem?_eq_some_iff.1 a3).1 a3
  replace a4 := bBlk bY (Array.getElem?_eq_some_iff.1 a4).1 a4
  replace hl := hl.next bY
  replace hs := hs.next bY
  replace l7 := l7.next bY
  replace a7 := bBlk bY (Array.getElem?_eq_some_iff.1 a7).1 a7
  replace s8 := s8.next bY
  replace s10 := s10.next bY
  replace a12 := bBlk bY (Array.getElem?_eq_some_iff.1 a12).1 a12
  replace hB := bNext hB bY
  clear bY
  go_upto_region 8 with (first
    | (refine wpList_new rfl hzR rfl ?_)
    | (refine wpList_store_row rfl 43 (.tmp 14) (.tmp 59) rfl _ cD rfl rfl _ z0 (heap_alloc_new _ _) iD zD oneD' ?_)
    | fail)
  try rw [hY]
  clear hY
  have hg := log_any (next := next) Y7 l7 (Nat.le_refl _)
  unfold EncP lgv at hg
  rw [HLG.out.1, HLG.out.2.1] at hg
  refine wp_region_lit ?_
  refine wpList_load_row rfl 46 (.tmp 7) rfl _ rfl _ #[.int .i64 next, .slice A7 n c7] (0, 0) _ a7 Try.underlying46 rfl (lg_info _ _) ?_
  (try simp only [Act.put, List.setIfInBounds_toArray, List.set_cons_zero, List.set_cons_succ])
  go_wp2_with fail
  refine Calls.mono hg ?_
  rintro e Y8 ⟨A16, n16, c16, rfl, hn16, -, -, -, s16, hb⟩
  subst hn16
  clear hg
  replace a3 := bBlk hb (Array.getElem?_eq_some_iff.1 a3).1 a3
  replace a4 := bBlk hb (Array.getElem?_eq_some_iff.1 a4).1 a4
  replace hl := hl.next hb
  replace hs := hs.next hb
  replace l7 := l7.next hb
  replace a7 := bBlk hb (Array.getElem?_eq_some_iff.1 a7).1 a7
  replace s8 := s8.next hb
  replace s10 := s10.next hb
  replace a12 := bBlk hb (Array.getElem?_eq_some_iff.1 a12).1 a12
  replace a14 := bBlk hb (Array.getElem?_eq_some_iff.1 a14).1 a14
  replace hB := bNext hB hb
  clear hb
  go_upto_region 9 with (first
    | fail)
  have hg := rlog_any (next := next) Y8 hl (Nat.le_refl _)
  unfold EncP lgv at hg
  rw [HLG.out.1, HLG.out.2.1] at hg
  refine wp_region_lit ?_
  refine wpList_load_row rfl 46 (.tmp 4) rfl _ rfl _ #[.int .i64 next, .slice A n c] (0, 0) _ a4 Try.underlying46 rfl (lg_info _ _) ?_
  (try simp only [Act.put, List.setIfInBounds_toArray, List.set_cons_zero, List.set_cons_succ])
  go_wp2_with fail
  refine Calls.mono hg ?_
  rintro e Y9 ⟨A18, n18, c18, rfl, hn18, -, -, -, s18, hb⟩
  subst hn18
  clear hg
  replace a3 := bBlk hb (Array.getElem?_eq_some_iff.1 a3).1 a3
  replace a4 := bBlk hb (Array.getElem?_eq_some_iff.1 a4).1 a4
  replace hl := hl.next hb
  replace hs := hs.next hb
  replace l7 := l7.next hb
  replace a7 := bBlk hb (Array.getElem?_eq_some_iff.1 a7).1 a7
  replace s8 := s8.next hb
  replace s10 := s10.next hb
  replace a12 := bBlk hb (Array.getElem?_eq_some_iff.1 a12).1 a12
  replace a14 := bBlk hb (Array.getElem?_eq_some_iff.1 a14).1 a14
  replace s16 := s16.next hb
  replace hB := bNext hB hb
  clear hb
  go_upto_region 10 with (first
    | fail)
  go_wp2_with (first
    | (at_builtin; refine wpList_app _ rfl (.tmp 72) (.tmp 73) 24 rfl (base := Y9.heap.size) Try.underlying24 elemC rfl (own_empty2 (by simp) (by omega)) rfl (hs.below ((Below.refl _ Y9).alloc (Nat.le_refl _) _)) (oneCell_bvs _) (by simp only [maxLen] at *; omega) (by simp only [maxLen] at *; omega) (by simp <;> omega) ?_; intro A74 c74 w74 hown hg hb hat; simp only [Nat.zero_add, List.nil_append] at hown ⊢)
    | fail)
  replace hb := Below.trans ((Below.refl _ Y9).alloc (Nat.le_refl _) _) hb
  have hso := Sl.of_own hown
  obtain ⟨Ax, cx, ex, hcx⟩ := own_form hown
  simp only [Value.slice.injEq] at ex
  obtain ⟨rfl, -, rfl⟩ := ex
  clear hown hg hat
  replace a3 := bBlk hb (Array.getElem?_eq_some_iff.1 a3).1 a3
  replace a4 := bBlk hb (Array.getElem?_eq_some_iff.1 a4).1 a4
  replace hl := hl.next hb
  replace hs := hs.next hb
  replace l7 := l7.next hb
  replace a7 := bBlk hb (Array.getElem?_eq_some_iff.1 a7).1 a7
  replace s8 := s8.next hb
  replace s10 := s10.next hb
  replace a12 := bBlk hb (Array.getElem?_eq_some_iff.1 a12).1 a12
  replace a14 := bBlk hb (Array.getElem?_eq_some_iff.1 a14).1 a14
  replace s16 := s16.next hb
  replace s18 := s18.next hb
  replace hB := bNext hB hb
  clear hb
  have hd := ldec_any w74 hso (Nat.le_refl _) hcx.1 hcx.2
  clear hso hcx
  unfold LDec lgv at hd
  rw [HLG.out.2.2.1, HLG.out.2.2.2.1, HLG.out.2.2.2.2.1] at hd
  refine Calls.mono hd ?_
  rintro e V10 ⟨A20, n20, c20, rfl, l20, m20, hb⟩
  clear hd
  replace a3 := bBlk hb (Array.getElem?_eq_some_iff.1 a3).1 a3
  replace a4 := bBlk hb (Array.getElem?_eq_some_iff.1 a4).1 a4
  replace hl := hl.next hb
  replace hs := hs.next hb
  replace l7 := l7.next hb
  replace a7 := bBlk hb (Array.getElem?_eq_some_iff.1 a7).1 a7
  replace s8 := s8.next hb
  replace s10 := s10.next hb
  replace a12 := bBlk hb (Array.getElem?_eq_some_iff.1 a12).1 a12
  replace a14 := bBlk hb (Array.getElem?_eq_some_iff.1 a14).1 a14
  replace s16 := s16.next hb
  replace s18 := s18.next hb
  replace hB := bNext hB hb
  clear hb
  obtain ⟨Y10, hY, a20, bY⟩ := newRow V10 #[.int .i64 0, .slice none 0 0] #[.int .i64 N, .slice A20 n20 c20] 46
  replace a3 := bBlk bY (Array.getElem?_eq_some_iff.1 a3).1 a3
  replace a4 := bBlk bY (Array.getElem?_eq_some_iff.1 a4).1 a4
  replace hl := hl.next bY
  replace hs := hs.next bY
  replace l7 := l7.next bY
  replace a7 := bBlk bY (Array.getElem?_eq_some_iff.1 a7).1 a7
  replace s8 := s8.next bY
  replace s10 := s10.next bY
  replace a12 := bBlk bY (Array.getElem?_eq_some_iff.1 a12).1 a12
  replace a14 := bBlk bY (Array.getElem?_eq_some_iff.1 a14).1 a14
  replace s16 := s16.next bY
  replace s18 := s18.next bY
  replace l20 := l20.next bY
  replace hB := bNext hB bY
  clear bY
  go_upto_region 11 with (first
    | (refine wpList_new rfl lgZ rfl ?_)
    | (refine wpList_store_row rfl 46 (.tmp 20) (.tmp 76) rfl _ #[.int .i64 N, .slice A20 n20 c20] rfl rfl _ #[.int .i64 0, .slice none 0 0] (heap_alloc_new _ _) (lg_info _ _) rfl (one_lg _ _ _ _) ?_)
    | fail)
  try rw [hY]
  clear hY
  go_wp2_with fail
  have hd := rldec_any Y10 hs (Nat.le_refl _) hc0 hcm0
  unfold LDec lgv at hd
  rw [HLG.out.2.2.1, HLG.out.2.2.2.1, HLG.out.2.2.2.2.1] at hd
  refine Calls.mono hd ?_
  rintro e V11 ⟨A22, n22, c22, rfl, l22, m22, hb⟩
  clear hd
  replace a3 := bBlk hb (Array.getElem?_eq_some_iff.1 a3).1 a3
  replace a4 := bBlk hb (Array.getElem?_eq_some_iff.1 a4).1 a4
  replace hl := hl.next hb
  replace hs := hs.next hb
  replace l7 := l7.next hb
  replace a7 := bBlk hb (Array.getElem?_eq_some_iff.1 a7).1 a7
  replace s8 := s8.next hb
  replace s10 := s10.next hb
  replace a12 := bBlk hb (Array.getElem?_eq_some_iff.1 a12).1 a12
  replace a14 := bBlk hb (Array.getElem?_eq_some_iff.1 a14).1 a14
  replace s16 := s16.next hb
  replace s18 := s18.next hb
  replace l20 := l20.next hb
  replace a20 := bBlk hb (Array.getElem?_eq_some_iff.1 a20).1 a20
  replace hB := bNext hB hb
  clear hb
  obtain ⟨Y11, hY, a22, bY⟩ := newRow V11 #[.int .i64 0, .slice none 0 0] #[.int .i64 N, .slice A22 n22 c22] 46
  replace a3 := bBlk bY (Array.getElem?_eq_some_iff.1 a3).1 a3
  replace a4 := bBlk bY (Array.getElem?_eq_some_iff.1 a4).1 a4
  replace hl := hl.next bY
  replace hs := hs.next bY
  replace l7 := l7.next bY
  replace a7 := bBlk bY (Array.getElem?_eq_some_iff.1 a7).1 a7
  replace s8 := s8.next bY
  replace s10 := s10.next bY
  replace a12 := bBlk bY (Array.getElem?_eq_some_iff.1 a12).1 a12
  replace a14 := bBlk bY (Array.getElem?_eq_some_iff.1 a14).1 a14
  replace s16 := s16.next bY
  replace s18 := s18.next bY
  replace l20 := l20.next bY
  replace a20 := bBlk bY (Array.getElem?_eq_some_iff.1 a20).1 a20
  replace l22 := l22.next bY
  replace hB := bNext hB bY
  clear bY
  go_upto_region 12 with (first
    | (refine wpList_new rfl lgZ rfl ?_)
    | (refine wpList_store_row rfl 46 (.tmp 22) (.tmp 81) rfl _ #[.int .i64 N, .slice A22 n22 c22] rfl rfl _ #[.int .i64 0, .slice none 0 0] (heap_alloc_new _ _) (lg_info _ _) rfl (one_lg _ _ _ _) ?_)
    | fail)
  try rw [hY]
  clear hY
  have hf := find_any (next := next) num Y11 l7 (Nat.le_refl _) (by omega)
  unfold lgv at hf
  try unfold retF at hf
  rw [HLG.out.2.2.2.2.2.1] at hf
  try rw [HLG.out.2.2.2.2.2.2.1, HLG.out.2.2.2.2.2.2.2] at hf
  have k3 := HKA.out _ _ a3
  have l3 := (Array.getElem?_eq_some_iff.1 a3).1
  refine wp_region_lit ?_
  refine wpList_load_row rfl 46 (.tmp 7) rfl _ rfl _ #[.int .i64 next, .slice A7 n c7] (0, 0) _ a7 Try.underlying46 rfl (lg_info _ _) ?_
  (try simp only [Act.put, List.setIfInBounds_toArray, List.set_cons_zero, List.set_cons_succ])
  go_wp2_with fail
  refine Calls.mono hf ?_
  rintro e Y12 ⟨rfl, hb⟩
  clear hf k3 l3
  replace a3 := bBlk hb (Array.getElem?_eq_some_iff.1 a3).1 a3
  replace a4 := bBlk hb (Array.getElem?_eq_some_iff.1 a4).1 a4
  replace hl := hl.next hb
  replace hs := hs.next hb
  replace l7 := l7.next hb
  replace a7 := bBlk hb (Array.getElem?_eq_some_iff.1 a7).1 a7
  replace s8 := s8.next hb
  replace s10 := s10.next hb
  replace a12 := bBlk hb (Array.getElem?_eq_some_iff.1 a12).1 a12
  replace a14 := bBlk hb (Array.getElem?_eq_some_iff.1 a14).1 a14
  replace s16 := s16.next hb
  replace s18 := s18.next hb
  replace l20 := l20.next hb
  replace a20 := bBlk hb (Array.getElem?_eq_some_iff.1 a20).1 a20
  replace l22 := l22.next hb
  replace a22 := bBlk hb (Array.getElem?_eq_some_iff.1 a22).1 a22
  replace hB := bNext hB hb
  clear hb
  go_upto_region 13 with (first
    | fail)
  have hf := rfind_any (next := next) num Y12 hl (Nat.le_refl _) (by omega)
  unfold lgv at hf
  try unfold retF at hf
  rw [HLG.out.2.2.2.2.2.1] at hf
  try rw [HLG.out.2.2.2.2.2.2.1, HLG.out.2.2.2.2.2.2.2] at hf
  have k3 := HKA.out _ _ a3
  have l3 := (Array.getElem?_eq_some_iff.1 a3).1
  refine wp_region_lit ?_
  refine wpList_load_row rfl 46 (.tmp 4) rfl _ rfl _ #[.int .i64 next, .slice A n c] (0, 0) _ a4 Try.underlying46 rfl (lg_info _ _) ?_
  (try simp only [Act.put, List.setIfInBounds_toArray, List.set_cons_zero, List.set_cons_succ])
  go_wp2_with fail
  refine Calls.mono hf ?_
  rintro e Y13 ⟨rfl, hb⟩
  clear hf k3 l3
  replace a3 := bBlk hb (Array.getElem?_eq_some_iff.1 a3).1 a3
  replace a4 := bBlk hb (Array.getElem?_eq_some_iff.1 a4).1 a4
  replace hl := hl.next hb
  replace hs := hs.next hb
  replace l7 := l7.next hb
  replace a7 := bBlk hb (Array.getElem?_eq_some_iff.1 a7).1 a7
  replace s8 := s8.next hb
  replace s10 := s10.next hb
  replace a12 := bBlk hb (Array.getElem?_eq_some_iff.1 a12).1 a12
  replace a14 := bBlk hb (Array.getElem?_eq_some_iff.1 a14).1 a14
  replace s16 := s16.next hb
  replace s18 := s18.next hb
  replace l20 := l20.next hb
  replace a20 := bBlk hb (Array.getElem?_eq_some_iff.1 a20).1 a20
  replace l22 := l22.next hb
  replace a22 := bBlk hb (Array.getElem?_eq_some_iff.1 a22).1 a22
  replace hB := bNext hB hb
  clear hb
  have hb1 := fun c c' => bytes_eqT (c := c) (c' := c') Y13 s8 s10
  have hb2 := fun c c' => bytes_eqT (c := c) (c' := c') Y13 s16 s18
  have hq := HQD.out
  have hsm := same_any (na := N) (nb := N) Y13 l20 l22 (Nat.le_refl _) (Nat.le_refl _) (by have := l20.len; have := HSB.out; omega)
  have hsn := fun W (h : Below Y13.heap.size Y13 W) => same_any (na := next) (nb := next) W (l7.next h) (hl.next h) (Nat.le_refl _) (Nat.le_refl _) (by omega)
  rw [show sameB N lb N lb = true from decide_eq_true ⟨rfl, rfl⟩] at hsm
  have e7 : sameB next l next l = true := decide_eq_true ⟨rfl, rfl⟩
  simp only [e7] at hsn
  unfold lgv at hsm hsn
  clear e7 s8 s10 s16 s18 l20 l22 l7 hl hs

  cases T
  case false =>
    have hF0 : ¬ 0 ≤ F := of_decide_eq_false HLG.out.2.2.2.2.2.2.2
    have hF1 : decide (0 ≤ F) = false := decide_eq_false hF0
    obtain rfl : M = 0 := by have := HLG.out.2.2.2.2.2.2.1; omega
    clear HLG HDD HQD HRV HRR HKA
    go_wp2_with (first
      | (go_at_call 17; (with_reducible refine Calls.mono (hb1 _ _) ?_); clear hb1; rintro e w' ⟨rfl, rfl⟩)
      | (go_at_call 17; (with_reducible refine Calls.mono (hb2 _ _) ?_); clear hb2; rintro e w' ⟨rfl, rfl⟩)
      | fail)
    simp only [List.append_eq, List.cons_append, List.nil_append]
    refine wpList_load_row_g (o := ⟨some 103, _, _, _, _, _⟩) ?_ 43 (.tmp 12) rfl _ rfl _ cD (0, 0) _ a12 Try.underlying43 rfl iD ?_
    · rfl
    (try simp only [Act.put, List.setIfInBounds_toArray, List.set_cons_zero, List.set_cons_succ])
    refine wpList_load_row_g (o := ⟨some 104, _, _, _, _, _⟩) ?_ 43 (.tmp 14) rfl _ rfl _ cD (0, 0) _ a14 Try.underlying43 rfl iD ?_
    · rfl
    (try simp only [Act.put, List.setIfInBounds_toArray, List.set_cons_zero, List.set_cons_succ])
    go_wp2_with (first
      | (refine wpList_load_row_g (o := ⟨some 123, _, _, _, _, _⟩) ?hw 46 (.tmp 20) rfl _ rfl _ #[.int .i64 N, .slice A20 n20 c20] (0, 0) _ a20 Try.underlying46 rfl (lg_info _ _) ?_; (case hw => rfl); (try simp only [Act.put, List.setIfInBounds_toArray, List.set_cons_zero, List.set_cons_succ]))
      | (refine wpList_load_row_g (o := ⟨some 124, _, _, _, _, _⟩) ?hw 46 (.tmp 22) rfl _ rfl _ #[.int .i64 N, .slice A22 n22 c22] (0, 0) _ a22 Try.underlying46 rfl (lg_info _ _) ?_; (case hw => rfl); (try simp only [Act.put, List.setIfInBounds_toArray, List.set_cons_zero, List.set_cons_succ]))
      | (refine wpList_load_row_g (o := ⟨some 155, _, _, _, _, _⟩) ?hw 46 (.tmp 7) rfl _ rfl _ #[.int .i64 next, .slice A7 n c7] (0, 0) _ a7 Try.underlying46 rfl (lg_info _ _) ?_; (case hw => rfl); (try simp only [Act.put, List.setIfInBounds_toArray, List.set_cons_zero, List.set_cons_succ]))
      | (refine wpList_load_row_g (o := ⟨some 156, _, _, _, _, _⟩) ?hw 46 (.tmp 4) rfl _ rfl _ #[.int .i64 next, .slice A n c] (0, 0) _ a4 Try.underlying46 rfl (lg_info _ _) ?_; (case hw => rfl); (try simp only [Act.put, List.setIfInBounds_toArray, List.set_cons_zero, List.set_cons_succ]))
      | (go_at_call 17; (with_reducible refine Calls.mono (hb1 _ _) ?_); clear hb1; rintro e w' ⟨rfl, rfl⟩)
      | (go_at_call 17; (with_reducible refine Calls.mono (hb2 _ _) ?_); clear hb2; rintro e w' ⟨rfl, rfl⟩)
      | (go_at_call 30; (with_reducible refine Calls.mono hsm ?_); clear hsm; rintro e Z1 ⟨rfl, hc1⟩; replace a7 := bBlk hc1 (Array.getElem?_eq_some_iff.1 a7).1 a7; replace a4 := bBlk hc1 (Array.getElem?_eq_some_iff.1 a4).1 a4; replace hB := bNext hB hc1)
      | (go_at_call 30; (with_reducible refine Calls.mono (hsn _ hc1) ?_); clear hsn; rintro e Z2 ⟨rfl, hc2⟩)
      | (go_at_call 18; refine Calls.mono (wakes24_any _) ?_; rintro e W3 ⟨rfl, hb3⟩)
      | fail)
    go_ret
    exact Ret.mk rfl ((bNext hB hc2).trans (hb3.mono (bNext hB hc2).size))
  case true =>
    have hF0 : 0 ≤ F := of_decide_eq_true HLG.out.2.2.2.2.2.2.2
    obtain rfl : M = F := by have := HLG.out.2.2.2.2.2.2.1; omega
    clear HLG HDD HQD HRV HRR HKA
    go_wp2_with (first
      | (go_at_call 17; (with_reducible refine Calls.mono (hb1 _ _) ?_); clear hb1; rintro e w' ⟨rfl, rfl⟩)
      | (go_at_call 17; (with_reducible refine Calls.mono (hb2 _ _) ?_); clear hb2; rintro e w' ⟨rfl, rfl⟩)
      | fail)
    simp only [List.append_eq, List.cons_append, List.nil_append]
    refine wpList_load_row_g (o := ⟨some 103, _, _, _, _, _⟩) ?_ 43 (.tmp 12) rfl _ rfl _ cD (0, 0) _ a12 Try.underlying43 rfl iD ?_
    · rfl
    (try simp only [Act.put, List.setIfInBounds_toArray, List.set_cons_zero, List.set_cons_succ])
    refine wpList_load_row_g (o := ⟨some 104, _, _, _, _, _⟩) ?_ 43 (.tmp 14) rfl _ rfl _ cD (0, 0) _ a14 Try.underlying43 rfl iD ?_
    · rfl
    (try simp only [Act.put, List.setIfInBounds_toArray, List.set_cons_zero, List.set_cons_succ])
    go_wp2_with (first
      | (refine wpList_load_row_g (o := ⟨some 123, _, _, _, _, _⟩) ?hw 46 (.tmp 20) rfl _ rfl _ #[.int .i64 N, .slice A20 n20 c20] (0, 0) _ a20 Try.underlying46 rfl (lg_info _ _) ?_; (case hw => rfl); (try simp only [Act.put, List.setIfInBounds_toArray, List.set_cons_zero, List.set_cons_succ]))
      | (refine wpList_load_row_g (o := ⟨some 124, _, _, _, _, _⟩) ?hw 46 (.tmp 22) rfl _ rfl _ #[.int .i64 N, .slice A22 n22 c22] (0, 0) _ a22 Try.underlying46 rfl (lg_info _ _) ?_; (case hw => rfl); (try simp only [Act.put, List.setIfInBounds_toArray, List.set_cons_zero, List.set_cons_succ]))
      | (refine wpList_load_row_g (o := ⟨some 155, _, _, _, _, _⟩) ?hw 46 (.tmp 7) rfl _ rfl _ #[.int .i64 next, .slice A7 n c7] (0, 0) _ a7 Try.underlying46 rfl (lg_info _ _) ?_; (case hw => rfl); (try simp only [Act.put, List.setIfInBounds_toArray, List.set_cons_zero, List.set_cons_succ]))
      | (refine wpList_load_row_g (o := ⟨some 156, _, _, _, _, _⟩) ?hw 46 (.tmp 4) rfl _ rfl _ #[.int .i64 next, .slice A n c] (0, 0) _ a4 Try.underlying46 rfl (lg_info _ _) ?_; (case hw => rfl); (try simp only [Act.put, List.setIfInBounds_toArray, List.set_cons_zero, List.set_cons_succ]))
      | (go_at_call 17; (with_reducible refine Calls.mono (hb1 _ _) ?_); clear hb1; rintro e w' ⟨rfl, rfl⟩)
      | (go_at_call 17; (with_reducible refine Calls.mono (hb2 _ _) ?_); clear hb2; rintro e w' ⟨rfl, rfl⟩)
      | (go_at_call 30; (with_reducible refine Calls.mono hsm ?_); clear hsm; rintro e Z1 ⟨rfl, hc1⟩; replace a7 := bBlk hc1 (Array.getElem?_eq_some_iff.1 a7).1 a7; replace a4 := bBlk hc1 (Array.getElem?_eq_some_iff.1 a4).1 a4; replace hB := bNext hB hc1)
      | (go_at_call 30; (with_reducible refine Calls.mono (hsn _ hc1) ?_); clear hsn; rintro e Z2 ⟨rfl, hc2⟩)
      | (go_at_call 18; refine Calls.mono (wakes24_any _) ?_; rintro e W3 ⟨rfl, hb3⟩)
      | fail)
    go_ret
    exact Ret.mk rfl ((bNext hB hc2).trans (hb3.mono (bNext hB hc2).size))
set_option maxRecDepth 100000 in
theorem revisionCodes_walk {H : Type} {enc : TypeId × Value → H} {W : World} {base : Nat} {v0 v1 v2 : Value} {d0 d1 d2 : DataW H} {p0 p1 p2 : List MemPlace}
    (k0 : Value.okWide Try.prog W .any base 43 v0) (h0 : DataW.Trod enc Try.prog W 0 (fun _ => true) true 43 v0 d0 p0)
    (k1 : Value.okWide Try.prog W .any base 46 v1) (h1 : DataW.Trod enc Try.prog W 0 (fun _ => true) true 46 v1 d1 p1)
    (k2 : Value.okWide Try.prog W .any base 24 v2) (h2 : DataW.Trod enc Try.prog W 0 (fun _ => true) true 24 v2 d2 p2)
    : Calls Try.prog 6 #[v0, v1, v2] W fun e W' => e = .returned (.bool true) ∧ Below W.heap.size W W' := by
  obtain ⟨r, rfl, hr⟩ := open_rv k0 h0
  obtain ⟨next, A, n, c, l, rfl, hl, hcm, -, -⟩ := open_lg k1 h1
  obtain ⟨A0, n0, c0, b, rfl, -, hn0, hc0, -, hsl⟩ := open_bytes_sl Try.underlying24 Try.underlying5 (by kernel_rfl) k2 h2
  by_cases h : 50 < n
  · exact revCodes_big hr W (.inl h)
  · by_cases h' : 1000 < n0
    · exact revCodes_big hr W (.inr ⟨h, h'⟩)
    · exact revCodes_core hr W hl hcm (by omega) hsl (by omega) hn0 hc0
end Go.Proofs.Ytjfkaebikmnnaaa
