/- The reference's Decode. -/
import Derived.Test.YtcnbonmpocddmaaTrDec
import Derived.Test.YtcnbonmpocddmaaMany
namespace Go.Proofs.Ytcnbonmpocddmaa
set_option linter.unusedSimpArgs false
set_option linter.unusedVariables false
open Go.RowKit Go.Shelf Go.Sort

def RTDec (w : World) (b : List UInt8) (e : Ending) (w' : World) : Prop :=
  ∃ A n c, e = .returned (.agg #[.int .i64 (tLv b : Nat), .slice A n c, .int .i64 (tEr b)]) ∧ DgAt w' w'.heap.size A n c (tKids b) ∧ c ≤ maxLen ∧ Below w.heap.size w w'
theorem rtdec_no {w w' : World} {b : List UInt8} (h : tOk b = false) (hB : Below w.heap.size w w') : RTDec w b (.returned (.agg #[.int .i64 0, .slice none 0 0, .int .i64 11])) w' := by
  refine ⟨none, 0, 0, ?_, ?_, by simp [maxLen], hB⟩
  · unfold tLv tEr; rw [h]; rfl
  · unfold tKids; rw [h]; exact DgAt.nil _ _
theorem rofDec {w w' : World} {b : List UInt8} {A : Option Addr} {n c : Nat} (h : tOk b = true) (hd : DgAt w' w'.heap.size A n c (kidsK b (b1 b).toNat)) (hc : c ≤ maxLen) (hB : Below w.heap.size w w') : RTDec w b (.returned (.agg #[.int .i64 ((b0 b).toNat : Nat), .slice A n c, .int .i64 0])) w' := by
  refine ⟨A, n, c, ?_, ?_, hc, hB⟩
  · unfold tLv tEr; rw [h]; rfl
  · unfold tKids; rw [h]; exact hd
theorem two_cells {w : World} {b o n B : Nat} {l : List UInt8} (hs : Sl w B 1 (some ⟨b, o, none⟩) n (bvs l)) (hn : 2 ≤ n) : b < B ∧ w.rangeAt b o (bvs l) ∧ w.cell? ⟨b, o, none⟩ = some (.int .u8 ((b0 l).toNat : Int)) ∧ w.cell? ⟨b, o + 1, none⟩ = some (.int .u8 ((b1 l).toNat : Int)) := by
  have hl : l.length = n := by have := hs.len; rw [bvs_len] at this; omega
  obtain ⟨b', o', e, hb, hr⟩ := hs.at_ (by omega)
  cases e
  match l, hl with
  | [], h => simp at h; omega
  | [x], h => simp at h; omega
  | x :: y :: t, _ => exact ⟨hb, hr, hr 0 _ rfl, hr 1 _ rfl⟩
set_option maxHeartbeats 4000000 in
set_option maxRecDepth 100000 in
theorem rtdec_short {A : Option Addr} {n c B : Nat} {l : List UInt8} (w : World) (hs : Sl w B 1 A n (bvs l)) (hB : B ≤ w.heap.size) (hm : n ≤ 1000000) (hno : tOk l = false) : Calls Try.prog 11 #[.slice A n c] w (RTDec w l) := by
  have hl : l.length = n := by have := hs.len; rw [bvs_len] at this; omega
  have HNO := Lib.hid hno
  by_cases h2 : n < 2
  · have i3 : (n : Int) < 2 := by omega
    clear hs hl hno
    go_enter Try.func11, Try.ntmps11
    go_wp2_with fail
    refine bodyPost_ret (by simp [results, Try.results11, Act.put, go_sem]; try rfl) rfl ?_
    exact rtdec_no HNO.out (by repeat (first | (with_reducible exact Below.refl _ _) | (with_reducible refine bDrewN ?_ _) | (with_reducible refine Below.drew ?_) | (with_reducible refine Below.alloc ?_ ?_ _) | (with_reducible refine Below.setCell ?_ ?_ _) | (with_reducible assumption) | go_size))
  · obtain ⟨b, o, rfl, -⟩ := hs.at_ (by omega)
    obtain ⟨hb, hr, k0, k1⟩ := two_cells hs (by omega)
    have hbw : b < w.heap.size := by omega
    have hbad : ¬ ((b0 l).toNat ≤ 9 ∧ (b1 l).toNat ≤ 3 ∧ n = 2 + (b1 l).toNat * 32) := fun h => by
      unfold tOk at hno
      have := of_decide_eq_false hno
      exact this ⟨by omega, h.1, h.2.1, by omega⟩
    have l0 := (b0 l).toNat_lt
    have l1 := (b1 l).toNat_lt
    generalize (b0 l).toNat = X at *
    generalize (b1 l).toNat = Y at *
    have i3 : ¬ (n : Int) < 2 := by omega
    have i0 : 0 < n := by omega
    have i1 : 1 < n := by omega
    have i9 : (1 : Int) < (n : Int) := by omega
    have w1 : IntKind.i64.wrap (Y : Int) = Y := wrap_small _ (by omega) (by omega)
    have w2 : IntKind.i64.wrap (32 * (Y : Int)) = 32 * (Y : Int) := wrap_small _ (by omega) (by omega)
    have w3 : IntKind.i64.wrap (2 + 32 * (Y : Int)) = 2 + 32 * (Y : Int) := wrap_small _ (by omega) (by omega)
    clear hs hl hr hno h2
    by_cases c1 : 9 < X
    · have j1 : (9 : Int) < (X : Int) := by omega
      clear hbad c1
      go_enter Try.func11, Try.ntmps11
      go_wp2_with fail
      refine bodyPost_ret (by simp [results, Try.results11, Act.put, go_sem]; try rfl) rfl ?_
      exact rtdec_no HNO.out (by repeat (first | (with_reducible exact Below.refl _ _) | (with_reducible refine bDrewN ?_ _) | (with_reducible refine Below.drew ?_) | (with_reducible refine Below.alloc ?_ ?_ _) | (with_reducible refine Below.setCell ?_ ?_ _) | (with_reducible assumption) | go_size))
    · have j1 : ¬ (9 : Int) < (X : Int) := by omega
      by_cases c2 : 3 < Y
      · have j2 : (3 : Int) < (Y : Int) := by omega
        clear hbad c1 c2
        go_enter Try.func11, Try.ntmps11
        go_wp2_with fail
        refine bodyPost_ret (by simp [results, Try.results11, Act.put, go_sem]; try rfl) rfl ?_
        exact rtdec_no HNO.out (by repeat (first | (with_reducible exact Below.refl _ _) | (with_reducible refine bDrewN ?_ _) | (with_reducible refine Below.drew ?_) | (with_reducible refine Below.alloc ?_ ?_ _) | (with_reducible refine Below.setCell ?_ ?_ _) | (with_reducible assumption) | go_size))
      · have j2 : ¬ (3 : Int) < (Y : Int) := by omega
        have j3 : ¬ (n : Int) = 2 + 32 * (Y : Int) := by omega
        clear hbad c1 c2
        go_enter Try.func11, Try.ntmps11
        go_wp2_with fail
        refine bodyPost_ret (by simp [results, Try.results11, Act.put, go_sem]; try rfl) rfl ?_
        exact rtdec_no HNO.out (by repeat (first | (with_reducible exact Below.refl _ _) | (with_reducible refine bDrewN ?_ _) | (with_reducible refine Below.drew ?_) | (with_reducible refine Below.alloc ?_ ?_ _) | (with_reducible refine Below.setCell ?_ ?_ _) | (with_reducible assumption) | go_size))
theorem gtZ : ZeroIs Try.prog 33 #[.int .i64 0, .slice none 0 0, .int .i64 0] := by unfold ZeroIs; kernel_rfl
theorem built_gt (a : Int) : Try.prog.built 33 [(0, .int .i64 a)] = some #[.int .i64 a, .slice none 0 0, .int .i64 0] := by kernel_rfl
theorem gt_info (a : Int) (v : Value) (b : Int) : (Try.prog.info? 33).map (·.size) = some (#[Value.int .i64 a, v, .int .i64 b] : Array Value).size := by
  show _ = some 3
  kernel_rfl
theorem kidsK_snoc (b : List UInt8) (k : Nat) : dgs (kidsK b (k + 1)) = dgs (kidsK b k) ++ bvs (kidAt b k) := by
  unfold kidsK
  rw [List.range_succ, List.map_append]
  simp [dgs]
attribute [-go_sem] Builtin.append_ Instr.buildSlice
set_option maxHeartbeats 16000000 in
set_option maxRecDepth 100000 in
theorem rtdec_full {b o n c B q : Nat} {l : List UInt8} (w : World) (hok : tOk l = true) (hq : (b1 l).toNat = q) (hs : Sl w B 1 (some ⟨b, o, none⟩) n (bvs l)) (hB : B ≤ w.heap.size) (hm : n ≤ 1000000) (hnc : n ≤ c) (hcm : c ≤ maxLen) :
    Calls Try.prog 11 #[.slice (some ⟨b, o, none⟩) n c] w (RTDec w l) := by
  have hl : l.length = n := by have := hs.len; rw [bvs_len] at this; omega
  have hall : 2 ≤ l.length ∧ (b0 l).toNat ≤ 9 ∧ (b1 l).toNat ≤ 3 ∧ l.length = 2 + (b1 l).toNat * 32 := by
    have h2 := hok
    unfold tOk at h2
    exact of_decide_eq_true h2
  rw [hl, hq] at hall
  obtain ⟨hn2, h9, hq3, hnq⟩ := hall
  obtain ⟨hb, hr, k0, k1⟩ := two_cells hs hn2
  rw [hq] at k1
  have hbw : b < w.heap.size := by omega
  have hww := kidsK_wide (b := l) (q := q) (by omega)
  have HL := Lib.hid (And.intro hok (And.intro hq (And.intro hr (And.intro hww (show l.length = 2 + q * 32 by omega)))))
  obtain ⟨X, hX⟩ : ∃ X, (b0 l).toNat = X := ⟨_, rfl⟩
  rw [hX] at k0 h9
  have HX := Lib.hid hX
  have i3 : ¬ (n : Int) < 2 := by omega
  have i0 : 0 < n := by omega
  have i1 : 1 < n := by omega
  have i9 : (1 : Int) < (n : Int) := by omega
  have w1 : IntKind.i64.wrap (q : Int) = q := wrap_small _ (by omega) (by omega)
  have w2 : IntKind.i64.wrap (32 * (q : Int)) = 32 * (q : Int) := wrap_small _ (by omega) (by omega)
  have w3 : IntKind.i64.wrap (2 + 32 * (q : Int)) = (n : Int) := by rw [wrap_small _ (by omega) (by omega)]; omega
  have w4 : IntKind.i64.wrap (X : Int) = X := wrap_small _ (by omega) (by omega)
  have j1 : ¬ (9 : Int) < (X : Int) := by omega
  have j2 : ¬ (3 : Int) < (q : Int) := by omega
  have j3 : (2 : Int) + 32 * (q : Int) = (n : Int) := by omega
  have HN := Lib.hid hnq
  have hz := gtZ
  have hbg := built_gt (X : Int)
  unfold maxLen at hcm
  clear hs hl hr hok hq hww hX hnq hn2
  go_enter Try.func11, Try.ntmps11
  go_upto_region 1 with (first | (refine wpList_new rfl hz rfl ?_) | fail)
  obtain ⟨W, hW⟩ : ∃ W, w.alloc (.cells #[.int .i64 0, .slice none 0 0, .int .i64 0] 33) = W := ⟨_, rfl⟩
  try rw [hW]
  have a2 : W.heap[w.heap.size]? = some (.cells #[.int .i64 0, .slice none 0 0, .int .i64 0] 33) := by rw [← hW]; exact heap_alloc_new _ _
  have hBW : Below w.heap.size w W := by rw [← hW]; exact (Below.refl _ _).alloc (Nat.le_refl _) _
  have hzW : w.heap.size < W.heap.size := by rw [← hW]; simp
  clear hW
  replace k0 := (hBW.cell (p := ⟨b, o, none⟩) hbw).trans k0
  replace k1 := (hBW.cell (p := ⟨b, o + 1, none⟩) hbw).trans k1
  obtain ⟨V0, hV0, g4, hbV⟩ := newRow W #[.int .i64 0, .slice none 0 0, .int .i64 0] #[.int .i64 (X : Int), .slice none 0 0, .int .i64 0] 33
  go_upto_region 3 with (fail)
  refine wp_region_lit ?_
  iterate 12 (first | go_guarded | go_step)
  (try simp only [Act.put, List.setIfInBounds_toArray, List.set_cons_zero, List.set_cons_succ])
  refine wpList_built rfl 33 #[(0, .tmp 36)] rfl (cs := #[.int .i64 (X : Int), .slice none 0 0, .int .i64 0]) (by simp only [List.map_toArray, List.map_cons, List.map_nil]; exact hbg) ?_
  (try simp only [Act.put, List.setIfInBounds_toArray, List.set_cons_zero, List.set_cons_succ])
  refine wpList_new rfl hz rfl ?_
  (try simp only [Act.put, List.setIfInBounds_toArray, List.set_cons_zero, List.set_cons_succ])
  refine wpList_store_row rfl 33 (.tmp 3) (.tmp 37) rfl _ #[.int .i64 (X : Int), .slice none 0 0, .int .i64 0] rfl rfl _ #[.int .i64 0, .slice none 0 0, .int .i64 0] (heap_alloc_new _ _) (gt_info _ _ _) rfl (by simp [Value.oneCell']) ?_
  (try simp only [Act.put, List.setIfInBounds_toArray, List.set_cons_zero, List.set_cons_succ])
  go_upto_region 4 with (fail)
  try rw [hV0]
  clear hV0 w2 w3 w4 j1 j2 j3 k0
  go_wp2_with fail
  go_loopw [4] (fun vi wr => ∃ k : Nat, k ≤ q ∧ vi = .int .i64 k ∧ Below W.heap.size W wr ∧ ∃ A c', wr.heap[W.heap.size]? = some (.cells #[.int .i64 (X : Int), .slice A k c', .int .i64 0] 33) ∧ wr.ownsRow (W.heap.size + 1) 40 32 (.slice A k c') k (dgs (kidsK l k))) (fun vi _ => q - (intOf vi).toNat)
  case atStart => exact ⟨0, by omega, rfl, hbV, none, 0, g4, World.ownsRow_nil _ _ _ _⟩
  case round =>
    clear hbV g4
    obtain ⟨k, hk, rfl, hbr, A, c', g4, hown⟩ := hrel
    have k1r := (hbr.cell (p := ⟨b, o + 1, none⟩) (by show b < _; omega)).trans k1
    have hGr := (Array.getElem?_eq_some_iff.1 g4).1
    by_cases hlt : k < q
    · have hk32 : (k + 1) * 32 ≤ q * 32 := Nat.mul_le_mul_right _ hlt
      obtain ⟨a, ha⟩ : ∃ a, 2 + k * 32 = a := ⟨_, rfl⟩
      have han : a + 32 ≤ n := by have := HN.out; omega
      have hwr : Below w.heap.size w wr := hBW.trans (hbr.mono (by omega))
      have hrK := range_cut (bRange hwr hbw HL.out.2.2.1) a 32
      rw [show ((bvs l).drop a).take 32 = bvs (kidAt l k) from by
        unfold kidAt
        rw [List.drop_drop, ha]
        simp [bvs, List.map_take, List.map_drop]] at hrK
      have hsn := kidsK_snoc l k
      have hkl : (kidAt l k).length = 32 := kidAt_len (HL.out.2.2.2.2) hlt
      obtain ⟨cs, hcs⟩ : ∃ z, bvs (kidAt l k) = z := ⟨_, rfl⟩
      have hcl : cs.length = 32 := by rw [← hcs, bvs_len, hkl]
      have hone : ∀ u ∈ cs, u.oneCell' = true := by rw [← hcs]; exact oneCell_bvs _
      rw [hcs] at hrK hsn
      have v1 : IntKind.i64.wrap (32 * (k : Int)) = 32 * (k : Int) := wrap_small _ (by omega) (by omega)
      have v2 : IntKind.i64.wrap (2 + 32 * (k : Int)) = (a : Int) := by rw [wrap_small _ (by omega) (by omega)]; omega
      have v3 : IntKind.i64.wrap ((k : Int) + 1) = ((k + 1 : Nat) : Int) := by rw [wrap_small _ (by omega) (by omega)]; omega
      have v4 : (a : Int) ≤ (n : Int) := by omega
      have v5 : ¬ c = a := by omega
      have hi1 : (k : Int) < (q : Int) := by omega
      have hdz := dgZ
      obtain ⟨z, hzz⟩ : ∃ z, (bvs (List.replicate 32 0)).toArray = z := ⟨_, rfl⟩
      have hzl : z.size = 32 := by rw [← hzz, List.size_toArray, bvs_len]; rfl
      rw [hzz] at hdz
      obtain ⟨Y0, hY0⟩ : ∃ Y, wr.alloc (.cells z 40) = Y := ⟨_, rfl⟩
      have g7 : Y0.heap[wr.heap.size]? = some (.cells z 40) := by rw [← hY0]; exact heap_alloc_new _ _
      have hbY : Below wr.heap.size wr Y0 := by rw [← hY0]; exact (Below.refl _ _).alloc (Nat.le_refl _) _
      have HH := Lib.hid (And.intro hsn (And.intro ha hzz))
      have HG := Lib.hid (And.intro hbr (And.intro hown g4))
      clear hsn ha hzz hkl hcs hbr hown hk32
      go_upto_region 8 with (first | (refine wpList_new rfl hdz rfl ?_) | fail)
      try rw [hY0]
      clear hY0 hdz
      have hbwr : b < wr.heap.size := by omega
      have hrK0 := bRange hbY hbwr hrK
      have hcopy := fun ty => run_copy_cells (P := Try.prog) Y0.drew 23 23 ty 5 wr.heap.size 0 32 32 ⟨b, o + a, none⟩ (n - a) (c - a) cs Try.underlying23 (by kernel_rfl) (by rw [hcl]; exact (Nat.min_eq_right (by omega)).symm) (fun j v hj => by rw [addr_add]; exact hrK0 j v hj)
        (fun j hj => ((there_blk (W := Y0.drew) g7 (o := 0) (n := 32) (by rw [hzl]; omega)) j (by rw [hcl] at hj; exact hj)).1) (fun j hj => blk_frozen (W := Y0.drew) g7 _) hone
      rw [hcl] at hcopy
      have g7' := blk_sets cs 0 (W := Y0.drew) g7
      have hfill : setMany z 0 cs = cs.toArray := by
        have h1 : setMany z.toList.toArray 0 cs = _ := setMany_list _ _ _ (by rw [hcl]; simp [hzl])
        rw [List.take_zero, List.nil_append, Nat.zero_add, List.drop_of_length_le (by rw [hcl]; simp [hzl]), List.append_nil] at h1
        exact h1
      rw [hfill] at g7'
      have hbY1 : Below wr.heap.size wr (Y0.drew.setCells wr.heap.size 0 cs) := (but_sets (X := fun k => k = wr.heap.size) _ _ _ ((but_of hbY).drew) rfl).below (Nat.le_refl _) (fun k e => by omega)
      let S : World → Prop := fun _ => True
      refine wp_region_held (S := S) (by kernel_rfl) ?_
      change wpAnyH _ _ _ _ S _ _ _ Y0.drew
      have hS1 : S Y0.drew := trivial
      refine wpAnyH_take (i := 0) (oi := ?oi_1) (v := ?v_1) ?ho_1 ?h1_1 ?h2_1 ?h3_1 ?hq_1 (Or.inl ⟨?hw_1, ?hy_1⟩) ?hs_1 ?rest_1; (case h2_1 => kernel_rfl); (case h3_1 => kernel_rfl); (case ho_1 => (simp only [List.getElem?_toArray, List.getElem?_cons_zero, List.getElem?_cons_succ]; rfl)); (case h1_1 => kernel_rfl); (case hq_1 => exact fun _ _ _ h => h); (case hw_1 => rfl); (case hy_1 => (intro w' hSw; (try simp only [S] at hSw); go_simp; (try with_reducible rfl))); (case hs_1 => assumption); (try simp only [Act.put, List.setIfInBounds_toArray, List.set_cons_zero, List.set_cons_succ])
      refine wpAnyH_take (i := 1) (oi := ?oi_2) (v := ?v_2) ?ho_2 ?h1_2 ?h2_2 ?h3_2 ?hq_2 (Or.inl ⟨?hw_2, ?hy_2⟩) ?hs_2 ?rest_2; (case h2_2 => kernel_rfl); (case h3_2 => kernel_rfl); (case ho_2 => (simp only [List.getElem?_toArray, List.getElem?_cons_zero, List.getElem?_cons_succ]; rfl)); (case h1_2 => kernel_rfl); (case hq_2 => exact fun _ _ _ h => h); (case hw_2 => rfl); (case hy_2 => (intro w' hSw; (try simp only [S] at hSw); go_simp; (try with_reducible rfl))); (case hs_2 => assumption); (try simp only [Act.put, List.setIfInBounds_toArray, List.set_cons_zero, List.set_cons_succ])
      refine wpAnyH_take (i := 2) (oi := ?oi_3) (v := ?v_3) ?ho_3 ?h1_3 ?h2_3 ?h3_3 ?hq_3 (Or.inl ⟨?hw_3, ?hy_3⟩) ?hs_3 ?rest_3; (case h2_3 => kernel_rfl); (case h3_3 => kernel_rfl); (case ho_3 => (simp only [List.getElem?_toArray, List.getElem?_cons_zero, List.getElem?_cons_succ]; rfl)); (case h1_3 => kernel_rfl); (case hq_3 => exact fun _ _ _ h => h); (case hw_3 => rfl); (case hy_3 => (intro w' hSw; (try simp only [S] at hSw); go_simp; (try with_reducible rfl))); (case hs_3 => assumption); (try simp only [Act.put, List.setIfInBounds_toArray, List.set_cons_zero, List.set_cons_succ])
      refine wpAnyH_take (i := 3) (oi := ?oi_4) (v := ?v_4) ?ho_4 ?h1_4 ?h2_4 ?h3_4 ?hq_4 (Or.inl ⟨?hw_4, ?hy_4⟩) ?hs_4 ?rest_4; (case h2_4 => kernel_rfl); (case h3_4 => kernel_rfl); (case ho_4 => (simp only [List.getElem?_toArray, List.getElem?_cons_zero, List.getElem?_cons_succ]; rfl)); (case h1_4 => kernel_rfl); (case hq_4 => exact fun _ _ _ h => h); (case hw_4 => rfl); (case hy_4 => (intro w' hSw; (try simp only [S] at hSw); go_simp; (try with_reducible rfl))); (case hs_4 => assumption); (try simp only [Act.put, List.setIfInBounds_toArray, List.set_cons_zero, List.set_cons_succ])
      refine wpAnyH_take (i := 4) (oi := ?oi_5) (v := ?v_5) ?ho_5 ?h1_5 ?h2_5 ?h3_5 ?hq_5 (Or.inl ⟨?hw_5, ?hy_5⟩) ?hs_5 ?rest_5; (case h2_5 => kernel_rfl); (case h3_5 => kernel_rfl); (case ho_5 => (simp only [List.getElem?_toArray, List.getElem?_cons_zero, List.getElem?_cons_succ]; rfl)); (case h1_5 => kernel_rfl); (case hq_5 => exact fun _ _ _ h => h); (case hw_5 => rfl); (case hy_5 => (intro w' hSw; (try simp only [S] at hSw); go_simp; (try with_reducible rfl))); (case hs_5 => assumption); (try simp only [Act.put, List.setIfInBounds_toArray, List.set_cons_zero, List.set_cons_succ])
      refine wpAnyH_take (i := 5) (oi := ?oi_6) (v := ?v_6) ?ho_6 ?h1_6 ?h2_6 ?h3_6 ?hq_6 (Or.inl ⟨?hw_6, ?hy_6⟩) ?hs_6 ?rest_6; (case h2_6 => kernel_rfl); (case h3_6 => kernel_rfl); (case ho_6 => (simp only [List.getElem?_toArray, List.getElem?_cons_zero, List.getElem?_cons_succ]; rfl)); (case h1_6 => kernel_rfl); (case hq_6 => exact fun _ _ _ h => h); (case hw_6 => rfl); (case hy_6 => (intro w' hSw; (try simp only [S] at hSw); go_simp; (try with_reducible rfl))); (case hs_6 => assumption); (try simp only [Act.put, List.setIfInBounds_toArray, List.set_cons_zero, List.set_cons_succ])
      refine wpAnyH_ready (rs := [6]) (by kernel_rfl) (by simp) (AllReadyH.cons (o := ?oo6_7) ?hoo6_7 (fun K hK => ?steponly7) AllReadyH.nil); (case hoo6_7 => (simp only [List.getElem?_toArray, List.getElem?_cons_zero, List.getElem?_cons_succ]; rfl))
      go_simp
      refine hK.out _ _ trivial (fun _ => ?_)
      clear hK K hcopy hS1
      (try simp only [Act.put, List.setIfInBounds_toArray, List.set_cons_zero, List.set_cons_succ])
      refine wpAnyH_done (by kernel_rfl) ?_ _
      generalize Y0.drew.setCells wr.heap.size 0 cs = Y at *
      clear hbY g7 hrK0 hrK hfill
      obtain ⟨hbr, hown, g4⟩ := HG.out
      have hownY := own_below hown hbY1
      have g4Y := bBlk hbY1 hGr g4
      have q1 := blk_cell g4Y (k := 1) rfl
      have f1 := blk_frozen g4Y 1
      have hzY := (Array.getElem?_eq_some_iff.1 g7').1
      have hWY : W.heap.size < Y.heap.size := by omega
      have hii : (Try.prog.info? 40).map (·.size) = some cs.toArray.size := by rw [List.size_toArray, hcl]; exact dg_size
      obtain ⟨A', cz, wz, hrun, hown', hgrow, _⟩ := run_app (P := Try.prog) (Y.alloc (.cells cs.toArray 40)) (ty := 22) (t := 22) Try.underlying22 elemD (hownY.alloc _) (Sl.new (n := 1) (heap_alloc_new _ _) (by simpa using hcl)) (c := 1) (by simpa using hone) (by simp only [maxLen]; omega) (by omega) (by simp; omega)
      have hbs := run_slice1 (P := Try.prog) (t := 22) dgZ Try.underlying22 (by rw [List.size_toArray, bvs_len]; rfl) (by omega) (by omega) cs hcl Y
      have hnO : ∀ q, (Value.slice A k c').ownBlock = some q → W.heap.size + 1 ≤ q := fun q hq => own_ge hownY q hq
      have g4z : wz.heap[W.heap.size]? = some (.cells #[.int .i64 (X : Int), .slice A k c', .int .i64 0] 33) := (hgrow.block W.heap.size (by simp; omega) (fun e => by have := hnO _ e.symm; omega)).trans ((Below.heap_alloc _ _ _ hWY).trans g4Y)
      have f1z := blk_frozen g4z 1
      have q1z := blk_cell g4z (k := 1) rfl
      have gfin := blk_set g4z 1 (.slice A' (k + 1) cz)
      have hownF : (wz.setCell ⟨W.heap.size, 1, none⟩ (.slice A' (k + 1) cz)).ownsRow (W.heap.size + 1) 40 32 (.slice A' (k + 1) cz) (k + 1) (dgs (kidsK l (k + 1))) := by
        rw [HH.out.1]
        refine ⟨by have := hown'.1; simpa using this, ?_⟩
        rcases hown'.2 with h | ⟨q, cap, cur, e, h2, h3, h4⟩
        · exact .inl h
        · exact .inr ⟨q, cap, cur, e, h2, (blk_far h3 (p := ⟨W.heap.size, 1, none⟩) _ (by show q ≠ W.heap.size; omega)), by simpa using h4⟩
      have hbF : Below W.heap.size W (wz.setCell ⟨W.heap.size, 1, none⟩ (.slice A' (k + 1) cz)) := by
        have h1 : Below W.heap.size W Y := hbr.trans (hbY1.mono (by omega))
        have h2 : Below W.heap.size Y wz := ((Below.refl _ Y).alloc (by omega) _).trans ((Below.refl W.heap.size _).grown hgrow (by simp; omega) (fun q e => by have := hnO q e; omega))
        exact (h1.trans h2).setCell (p := ⟨W.heap.size, 1, none⟩) (Nat.le_refl _) _
      have HF2 := Lib.hid (And.intro gfin (And.intro hownF hbF))
      clear gfin hownF hbF hown' hgrow hownY hown g4 hbr g4Y g4z hnO hbY1
      go_wp2_with (first
        | (refine wpList_load_row (o := ⟨some 55, _, _, _, _, _⟩) rfl 40 (.tmp 5) rfl _ rfl _ cs.toArray (0, 0) _ g7' Try.underlying40 rfl hii ?_)
        | fail)
      go_roundw
      case rel => exact ⟨k + 1, by omega, by go_num, HF2.out.2.2, A', cz, HF2.out.1, HF2.out.2.1⟩
      case measure => simp [intOf]; omega
    · obtain rfl : k = q := by omega
      have hi1 : ¬ (k : Int) < (k : Int) := by omega
      have hBc := hBW.trans (hbr.mono (by omega))
      have y2 := bBlk hbr hzW a2
      obtain ⟨V, hV⟩ : ∃ V, wr.setRow w.heap.size #[.int .i64 (X : Int), .slice A k c', .int .i64 0] = V := ⟨_, rfl⟩
      have v2 : V.heap[w.heap.size]? = some (.cells #[.int .i64 (X : Int), .slice A k c', .int .i64 0] 33) := by rw [← hV]; exact setRow_heap _ _ _ _ _ _ y2
      have hBV : Below w.heap.size w V := by rw [← hV]; exact bSetRow hBc (Nat.le_refl _) _
      have hownV : V.ownsRow (W.heap.size + 1) 40 32 (.slice A k c') k (dgs (kidsK l k)) := by
        rw [← hV]
        refine ⟨hown.1, ?_⟩
        rcases hown.2 with h | ⟨g, cap, cur, e, h2, h3, h4⟩
        · exact .inl h
        · exact .inr ⟨g, cap, cur, e, h2, (setRow_other _ _ _ _ (by omega)).trans h3, h4⟩
      obtain ⟨_, c9, e9, hc9⟩ := own_form hown
      cases e9
      have HF := Lib.hid (And.intro hBV (And.intro hownV hc9))
      clear hBW hbr hown hBc hownV hBV a2
      go_upto_region 10 with (fail)
      refine wp_region_lit ?_
      refine wpList_load_row rfl 33 (.tmp 3) rfl _ rfl _ #[.int .i64 (X : Int), .slice A k c', .int .i64 0] (0, 0) _ g4 Try.underlying33 rfl (gt_info _ _ _) ?_
      (try simp only [Act.put, List.setIfInBounds_toArray, List.set_cons_zero, List.set_cons_succ])
      refine wpList_store_row rfl 33 (.tmp 2) (.tmp 59) rfl _ #[.int .i64 (X : Int), .slice A k c', .int .i64 0] rfl rfl _ #[.int .i64 0, .slice none 0 0, .int .i64 0] y2 (gt_info _ _ _) rfl (by simp [Value.oneCell']) ?_
      (try simp only [Act.put, List.setIfInBounds_toArray, List.set_cons_zero, List.set_cons_succ])
      rw [hV]
      clear hV
      go_wp2_with fail
      refine bodyPost_ret (results_cell_row Try.results11 _ V w.heap.size 33 #[.int .i64 (X : Int), .slice A k c', .int .i64 0] (0, 0) _ ?_ v2 Try.underlying33 rfl (gt_info _ _ _)) rfl ?_
      · rfl
      · obtain ⟨hok, hq, hr, hww, hlen⟩ := HL.out
        obtain ⟨hBV, hownV, hc9⟩ := HF.out
        rw [← HX.out]
        refine rofDec hok ?_ hc9.2 hBV
        rw [hq]
        exact DgAt.of_own hownV (kidsK_len l k) hww
theorem rtdec_any {A : Option Addr} {n c B : Nat} {l : List UInt8} (w : World) (hs : Sl w B 1 A n (bvs l)) (hB : B ≤ w.heap.size) (hm : n ≤ 1000000) (hnc : n ≤ c) (hcm : c ≤ maxLen) : Calls Try.prog 11 #[.slice A n c] w (RTDec w l) := by
  by_cases h : tOk l = true
  · have hl : l.length = n := by have := hs.len; rw [bvs_len] at this; omega
    have h2 : 2 ≤ l.length := by
      have h2 := h
      unfold tOk at h2
      exact (of_decide_eq_true h2).1
    obtain ⟨b, o, rfl, -⟩ := hs.at_ (by omega)
    exact rtdec_full w h rfl hs hB hm hnc hcm
  · exact rtdec_short w hs hB hm (by simpa using h)
end Go.Proofs.Ytcnbonmpocddmaa
