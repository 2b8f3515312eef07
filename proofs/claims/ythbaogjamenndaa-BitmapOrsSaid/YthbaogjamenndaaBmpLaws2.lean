/- The statements of layer 4: BitmapOrs. -/
import Derived.Test.YthbaogjamenndaaBmpLaws
namespace Go.Proofs.Ythbaogjamenndaa
set_option linter.unusedSimpArgs false
set_option linter.unusedVariables false
open Go.RowKit Go.ChangeShapes Go.WideShapes Go.Sort

set_option maxHeartbeats 4000000 in
set_option maxRecDepth 100000 in
theorem bitmapOrs_core {a b : List UInt8} (ha : a.length = 16) (hb : b.length = 16) (w : World) :
    Calls Try.prog 5 #[bmv a, bmv b] w (Ret w (.bool true)) := by
  obtain ⟨x, hxe⟩ : ∃ x, orM a b = x := ⟨_, rfl⟩
  have hx : x.length = 16 := by rw [← hxe]; exact orM_len ha hb
  have hbits : ∀ k, bit x k = (bit a k || bit b k) := fun k => by rw [← hxe]; exact bit_orM ha hb k
  have o1 := fun W => or_any ha hb W
  have o2 := fun W => or_any hb ha W
  have o3 := fun W => or_any ha ha W
  have o4 := fun W => or_any hx hb W
  have o5 := fun W => count_any hx 1000 W
  have o6 := fun W => has_any hx (-1) W
  have e4 : orM x b = x := by rw [← hxe]; exact orM_again ha hb
  rw [hxe] at o1
  rw [orM_comm ha hb, hxe] at o2
  rw [orM_self ha] at o3
  rw [e4] at o4
  rw [show (min (1000 : Int) 128).toNat = 128 from by decide] at o5
  rw [show hasB x (-1) = true from by simp [hasB]] at o6
  have HBITS := Lib.hid hbits
  clear hxe e4 hbits
  unfold bmv at *
  have E := Lib.hid (And.intro o1 (And.intro o2 (And.intro o3 (And.intro o4 (And.intro o5 o6)))))
  clear o1 o2 o3 o4 o5 o6
  go_enter Try.func5, Try.ntmps5
  go_upto_region 1 with (fail)
  generalize hW : World.alloc (World.alloc w _) _ = W
  have bA0 : W.heap[w.heap.size]? = some (.cells (bvs a).toArray 23) := by rw [← hW]; exact (Below.heap_alloc _ _ _ (by simp)).trans (heap_alloc_new _ _)
  have bB0 : W.heap[w.heap.size + 1]? = some (.cells (bvs b).toArray 23) := by rw [← hW]; exact heap_alloc_new2 _ _ _
  have hB0 : RowKit.Below w.heap.size w W := by rw [← hW]; exact ((Below.refl _ _).alloc (Nat.le_refl _) _).alloc (by simp) _
  have hz0 : w.heap.size + 1 < W.heap.size := by rw [← hW]; simp
  clear hW
  go_wp2_with (first
    | (refine wpList_load_row rfl 23 (.tmp 2) rfl _ rfl _ (bvs a).toArray (0, 0) _ bA0 Try.underlying23 rfl (bm_info ha) ?_)
    | (refine wpList_load_row rfl 23 (.tmp 3) rfl _ rfl _ (bvs b).toArray (0, 0) _ bB0 Try.underlying23 rfl (bm_info hb) ?_)
    | fail)
  refine (E.out.1 _).mono ?_
  rintro e W1 ⟨rfl, hb1⟩
  have bA1 := bBlk hb1 (by omega) bA0
  have bB1 := bBlk hb1 hz0 bB0
  have hB1 := hB0.trans (hb1.mono (by omega))
  have hz1 := hb1.size
  clear hb1 bA0 bB0
  go_upto_region 2 with (first | (refine wpList_store_row rfl 23 (.tmp 5) (.tmp 10) rfl _ (bvs x).toArray rfl rfl _ (bvs z16).toArray (heap_alloc_new _ _) (bm_info hx) (by simp [bvs, hx, z16]) (all_oneCell_toArray (oneCell_bvs _)) ?_) | fail)
  generalize hX : World.setRow _ _ _ = Y
  have bA := (show Y.heap[w.heap.size]? = some (.cells (bvs a).toArray 23) by rw [← hX]; exact (setRow_other _ _ _ _ (by omega)).trans ((Below.heap_alloc _ _ _ (by omega)).trans bA1))
  have bB := (show Y.heap[w.heap.size + 1]? = some (.cells (bvs b).toArray 23) by rw [← hX]; exact (setRow_other _ _ _ _ (by omega)).trans ((Below.heap_alloc _ _ _ (by omega)).trans bB1))
  have bX := (show Y.heap[W1.heap.size]? = some (.cells (bvs x).toArray 23) by rw [← hX]; exact setRow_heap _ _ _ _ _ _ (heap_alloc_new _ _))
  have hB : RowKit.Below w.heap.size w Y := by rw [← hX]; exact bSetRow (hB1.alloc (by omega) _) (by omega) _
  clear hX bA1 bB1
  go_wp2
  go_loopw [6, 7] (fun n i wr => ∃ k : Nat, n = .int .i64 (cntTo x k : Nat) ∧ i = .int .i64 k ∧ k ≤ 128 ∧ wr.heap[W1.heap.size]? = some (.cells (bvs x).toArray 23) ∧ wr.heap[w.heap.size]? = some (.cells (bvs a).toArray 23) ∧ wr.heap[w.heap.size + 1]? = some (.cells (bvs b).toArray 23) ∧ RowKit.Below w.heap.size w wr) (fun _ i _ => 128 - (intOf i).toNat)
  case atStart => exact ⟨0, rfl, rfl, by omega, bX, bA, bB, hB⟩
  case round =>
    clear bA bB bX hB
    obtain ⟨k, rfl, rfl, hk, bX, bA, bB, hB⟩ := hrel
    have hzr := hB.size
    have hlx : W1.heap.size < wr.heap.size := (Array.getElem?_eq_some_iff.1 bX).1
    have hla : w.heap.size < wr.heap.size := (Array.getElem?_eq_some_iff.1 bA).1
    have hlb : w.heap.size + 1 < wr.heap.size := (Array.getElem?_eq_some_iff.1 bB).1
    have hcl := cntTo_le x k
    have hqx := range_regrown bX
    have hqa := range_regrown bA
    have hqb := range_regrown bB
    by_cases hlt : k < 128
    · have g1 : (k : Int) < 128 := by omega
      have s1 := fun W => has_any hx k W
      have s2 := fun W => has_any ha k W
      have s3 := fun W => has_any hb k W
      have s4 := fun W => count_any hx ((k : Int) + 1) W
      have hc := cntTo_succ x k
      rw [hasB_nat hlt] at s1 s2 s3
      rw [show (min ((k : Int) + 1) 128).toNat = k + 1 from by omega, hc] at s4
      rw [HBITS.out k] at s1 s4 hc
      generalize bit a k = t1 at *
      generalize bit b k = t2 at *
      unfold bmv at s1 s2 s3 s4
      have HC := Lib.hid hc
      clear hc
      cases t1 <;> cases t2
      · simp only [Bool.or_false, Bool.or_true, Bool.true_or, Bool.false_or, if_true, Bool.false_eq_true, if_false, Nat.add_zero] at s1 s4
        have S := Lib.hid (And.intro s1 (And.intro s2 (And.intro s3 s4)))
        clear s1 s2 s3 s4
        go_upto_region 6 with (fail)
        refine wp_region_quiet_below (by kernel_rfl) (by kernel_rfl) ?_
        refine wpQuiet_load_row (by simp [Region.wanted, yielded, Act.put]) 23 _ rfl _ _ rfl (bvs x) hqx _ Try.underlying23 rfl (bm_len hx) ?_
        iterate 1 (quiet_step (fail))
        quiet_step ((go_at_call 18; exact Calls.regrown_of (S.out.1 _)))
        refine wpQuiet_load_row (by simp [Region.wanted, yielded, Act.put]) 23 _ rfl _ _ rfl (bvs a) hqa _ Try.underlying23 rfl (bm_len ha) ?_
        iterate 1 (quiet_step (fail))
        quiet_step ((go_at_call 18; exact Calls.regrown_of (S.out.2.1 _)))
        iterate 1 (quiet_step (fail))
        refine wpQuiet_load_row (by simp [Region.wanted, yielded, Act.put]) 23 _ rfl _ _ rfl (bvs b) hqb _ Try.underlying23 rfl (bm_len hb) ?_
        iterate 1 (quiet_step (fail))
        quiet_step ((go_at_call 18; exact Calls.regrown_of (S.out.2.2.1 _)))
        iterate 2 (quiet_step (fail))
        refine wpQuiet_nil ?_
        intro _ hw'
        obtain ⟨pq, rfl⟩ := hw'
        have hbV := below_regrown wr pq.d pq.os
        generalize grow (redrawn wr pq.d) pq.os = V at *
        have bX1 := bBlk hbV hlx bX
        have bA1 := bBlk hbV hla bA
        have bB1 := bBlk hbV hlb bB
        have hB1 := hB.trans (hbV.mono hzr)
        have hz1 := hbV.size
        clear hqx hqa hqb hbV bX bA bB
        go_wp2_with (refine wpList_load_row rfl 23 (.tmp 5) rfl _ rfl _ (bvs x).toArray (0, 0) _ bX1 Try.underlying23 rfl (bm_info hx) ?_)
        refine (S.out.1 _).mono ?_
        rintro e W2 ⟨rfl, hb2⟩
        have bX2 := bBlk hb2 (by omega) bX1
        have bA2 := bBlk hb2 (by omega) bA1
        have bB2 := bBlk hb2 (by omega) bB1
        have hB2 := hB1.trans (hb2.mono (by omega))
        have hz2 := hb2.size
        clear hb2 bX1 bA1 bB1
        go_wp2_with (refine wpList_load_row rfl 23 (.tmp 5) rfl _ rfl _ (bvs x).toArray (0, 0) _ bX2 Try.underlying23 rfl (bm_info hx) ?_)
        refine (S.out.2.2.2 _).mono ?_
        rintro e W3 ⟨rfl, hb3⟩
        have bX3 := bBlk hb3 (by omega) bX2
        have bA3 := bBlk hb3 (by omega) bA2
        have bB3 := bBlk hb3 (by omega) bB2
        have hB3 := hB2.trans (hb3.mono (by omega))
        go_wp2
        go_roundw
        case rel => exact ⟨k + 1, by rw [HC.out]; rfl, by go_num, by omega, bX3, bA3, bB3, hB3⟩
        case measure => simp [intOf]; omega
      · simp only [Bool.or_false, Bool.or_true, Bool.true_or, Bool.false_or, if_true, Bool.false_eq_true, if_false, Nat.add_zero] at s1 s4
        have S := Lib.hid (And.intro s1 (And.intro s2 (And.intro s3 s4)))
        clear s1 s2 s3 s4
        go_upto_region 6 with (fail)
        refine wp_region_quiet_below (by kernel_rfl) (by kernel_rfl) ?_
        refine wpQuiet_load_row (by simp [Region.wanted, yielded, Act.put]) 23 _ rfl _ _ rfl (bvs x) hqx _ Try.underlying23 rfl (bm_len hx) ?_
        iterate 1 (quiet_step (fail))
        quiet_step ((go_at_call 18; exact Calls.regrown_of (S.out.1 _)))
        refine wpQuiet_load_row (by simp [Region.wanted, yielded, Act.put]) 23 _ rfl _ _ rfl (bvs a) hqa _ Try.underlying23 rfl (bm_len ha) ?_
        iterate 1 (quiet_step (fail))
        quiet_step ((go_at_call 18; exact Calls.regrown_of (S.out.2.1 _)))
        iterate 1 (quiet_step (fail))
        refine wpQuiet_load_row (by simp [Region.wanted, yielded, Act.put]) 23 _ rfl _ _ rfl (bvs b) hqb _ Try.underlying23 rfl (bm_len hb) ?_
        iterate 1 (quiet_step (fail))
        quiet_step ((go_at_call 18; exact Calls.regrown_of (S.out.2.2.1 _)))
        iterate 2 (quiet_step (fail))
        refine wpQuiet_nil ?_
        intro _ hw'
        obtain ⟨pq, rfl⟩ := hw'
        have hbV := below_regrown wr pq.d pq.os
        generalize grow (redrawn wr pq.d) pq.os = V at *
        have bX1 := bBlk hbV hlx bX
        have bA1 := bBlk hbV hla bA
        have bB1 := bBlk hbV hlb bB
        have hB1 := hB.trans (hbV.mono hzr)
        have hz1 := hbV.size
        clear hqx hqa hqb hbV bX bA bB
        go_wp2_with (refine wpList_load_row rfl 23 (.tmp 5) rfl _ rfl _ (bvs x).toArray (0, 0) _ bX1 Try.underlying23 rfl (bm_info hx) ?_)
        refine (S.out.1 _).mono ?_
        rintro e W2 ⟨rfl, hb2⟩
        have bX2 := bBlk hb2 (by omega) bX1
        have bA2 := bBlk hb2 (by omega) bA1
        have bB2 := bBlk hb2 (by omega) bB1
        have hB2 := hB1.trans (hb2.mono (by omega))
        have hz2 := hb2.size
        clear hb2 bX1 bA1 bB1
        go_wp2_with (refine wpList_load_row rfl 23 (.tmp 5) rfl _ rfl _ (bvs x).toArray (0, 0) _ bX2 Try.underlying23 rfl (bm_info hx) ?_)
        refine (S.out.2.2.2 _).mono ?_
        rintro e W3 ⟨rfl, hb3⟩
        have bX3 := bBlk hb3 (by omega) bX2
        have bA3 := bBlk hb3 (by omega) bA2
        have bB3 := bBlk hb3 (by omega) bB2
        have hB3 := hB2.trans (hb3.mono (by omega))
        go_wp2
        go_roundw
        case rel => exact ⟨k + 1, by rw [HC.out]; simp, by go_num, by omega, bX3, bA3, bB3, hB3⟩
        case measure => simp [intOf]; omega
      · simp only [Bool.or_false, Bool.or_true, Bool.true_or, Bool.false_or, if_true, Bool.false_eq_true, if_false, Nat.add_zero] at s1 s4
        have S := Lib.hid (And.intro s1 (And.intro s2 (And.intro s3 s4)))
        clear s1 s2 s3 s4
        go_upto_region 6 with (fail)
        refine wp_region_quiet_below (by kernel_rfl) (by kernel_rfl) ?_
        refine wpQuiet_load_row (by simp [Region.wanted, yielded, Act.put]) 23 _ rfl _ _ rfl (bvs x) hqx _ Try.underlying23 rfl (bm_len hx) ?_
        iterate 1 (quiet_step (fail))
        quiet_step ((go_at_call 18; exact Calls.regrown_of (S.out.1 _)))
        refine wpQuiet_load_row (by simp [Region.wanted, yielded, Act.put]) 23 _ rfl _ _ rfl (bvs a) hqa _ Try.underlying23 rfl (bm_len ha) ?_
        iterate 1 (quiet_step (fail))
        quiet_step ((go_at_call 18; exact Calls.regrown_of (S.out.2.1 _)))
        iterate 1 (quiet_step (fail))
        iterate 3 (quiet_step (fail))
        iterate 2 (quiet_step (fail))
        refine wpQuiet_nil ?_
        intro _ hw'
        obtain ⟨pq, rfl⟩ := hw'
        have hbV := below_regrown wr pq.d pq.os
        generalize grow (redrawn wr pq.d) pq.os = V at *
        have bX1 := bBlk hbV hlx bX
        have bA1 := bBlk hbV hla bA
        have bB1 := bBlk hbV hlb bB
        have hB1 := hB.trans (hbV.mono hzr)
        have hz1 := hbV.size
        clear hqx hqa hqb hbV bX bA bB
        go_wp2_with (refine wpList_load_row rfl 23 (.tmp 5) rfl _ rfl _ (bvs x).toArray (0, 0) _ bX1 Try.underlying23 rfl (bm_info hx) ?_)
        refine (S.out.1 _).mono ?_
        rintro e W2 ⟨rfl, hb2⟩
        have bX2 := bBlk hb2 (by omega) bX1
        have bA2 := bBlk hb2 (by omega) bA1
        have bB2 := bBlk hb2 (by omega) bB1
        have hB2 := hB1.trans (hb2.mono (by omega))
        have hz2 := hb2.size
        clear hb2 bX1 bA1 bB1
        go_wp2_with (refine wpList_load_row rfl 23 (.tmp 5) rfl _ rfl _ (bvs x).toArray (0, 0) _ bX2 Try.underlying23 rfl (bm_info hx) ?_)
        refine (S.out.2.2.2 _).mono ?_
        rintro e W3 ⟨rfl, hb3⟩
        have bX3 := bBlk hb3 (by omega) bX2
        have bA3 := bBlk hb3 (by omega) bA2
        have bB3 := bBlk hb3 (by omega) bB2
        have hB3 := hB2.trans (hb3.mono (by omega))
        go_wp2
        go_roundw
        case rel => exact ⟨k + 1, by rw [HC.out]; simp, by go_num, by omega, bX3, bA3, bB3, hB3⟩
        case measure => simp [intOf]; omega
      · simp only [Bool.or_false, Bool.or_true, Bool.true_or, Bool.false_or, if_true, Bool.false_eq_true, if_false, Nat.add_zero] at s1 s4
        have S := Lib.hid (And.intro s1 (And.intro s2 (And.intro s3 s4)))
        clear s1 s2 s3 s4
        go_upto_region 6 with (fail)
        refine wp_region_quiet_below (by kernel_rfl) (by kernel_rfl) ?_
        refine wpQuiet_load_row (by simp [Region.wanted, yielded, Act.put]) 23 _ rfl _ _ rfl (bvs x) hqx _ Try.underlying23 rfl (bm_len hx) ?_
        iterate 1 (quiet_step (fail))
        quiet_step ((go_at_call 18; exact Calls.regrown_of (S.out.1 _)))
        refine wpQuiet_load_row (by simp [Region.wanted, yielded, Act.put]) 23 _ rfl _ _ rfl (bvs a) hqa _ Try.underlying23 rfl (bm_len ha) ?_
        iterate 1 (quiet_step (fail))
        quiet_step ((go_at_call 18; exact Calls.regrown_of (S.out.2.1 _)))
        iterate 1 (quiet_step (fail))
        iterate 3 (quiet_step (fail))
        iterate 2 (quiet_step (fail))
        refine wpQuiet_nil ?_
        intro _ hw'
        obtain ⟨pq, rfl⟩ := hw'
        have hbV := below_regrown wr pq.d pq.os
        generalize grow (redrawn wr pq.d) pq.os = V at *
        have bX1 := bBlk hbV hlx bX
        have bA1 := bBlk hbV hla bA
        have bB1 := bBlk hbV hlb bB
        have hB1 := hB.trans (hbV.mono hzr)
        have hz1 := hbV.size
        clear hqx hqa hqb hbV bX bA bB
        go_wp2_with (refine wpList_load_row rfl 23 (.tmp 5) rfl _ rfl _ (bvs x).toArray (0, 0) _ bX1 Try.underlying23 rfl (bm_info hx) ?_)
        refine (S.out.1 _).mono ?_
        rintro e W2 ⟨rfl, hb2⟩
        have bX2 := bBlk hb2 (by omega) bX1
        have bA2 := bBlk hb2 (by omega) bA1
        have bB2 := bBlk hb2 (by omega) bB1
        have hB2 := hB1.trans (hb2.mono (by omega))
        have hz2 := hb2.size
        clear hb2 bX1 bA1 bB1
        go_wp2_with (refine wpList_load_row rfl 23 (.tmp 5) rfl _ rfl _ (bvs x).toArray (0, 0) _ bX2 Try.underlying23 rfl (bm_info hx) ?_)
        refine (S.out.2.2.2 _).mono ?_
        rintro e W3 ⟨rfl, hb3⟩
        have bX3 := bBlk hb3 (by omega) bX2
        have bA3 := bBlk hb3 (by omega) bA2
        have bB3 := bBlk hb3 (by omega) bB2
        have hB3 := hB2.trans (hb3.mono (by omega))
        go_wp2
        go_roundw
        case rel => exact ⟨k + 1, by rw [HC.out]; simp, by go_num, by omega, bX3, bA3, bB3, hB3⟩
        case measure => simp [intOf]; omega
    · obtain rfl : k = 128 := by omega
      have heqx := bm_same hx
      have heqa := bm_same ha
      have g1 : ¬ ((128 : Nat) : Int) < 128 := by omega
      go_upto_region 12 with (fail)
      refine wp_region_quiet_below (by kernel_rfl) (by kernel_rfl) ?_
      refine wpQuiet_load_row (by simp [Region.wanted, yielded, Act.put]) 23 _ rfl _ _ rfl (bvs b) hqb _ Try.underlying23 rfl (bm_len hb) ?_
      refine wpQuiet_load_row (by simp [Region.wanted, yielded, Act.put]) 23 _ rfl _ _ rfl (bvs a) hqa _ Try.underlying23 rfl (bm_len ha) ?_
      quiet_step ((go_at_call 20; exact Calls.regrown_of (E.out.2.1 _)))
      refine wpQuiet_load_row (by simp [Region.wanted, yielded, Act.put]) 23 _ rfl _ _ rfl (bvs x) hqx _ Try.underlying23 rfl (bm_len hx) ?_
      iterate 2 (quiet_step (fail))
      refine wpQuiet_load_row (by simp [Region.wanted, yielded, Act.put]) 23 _ rfl _ _ rfl (bvs a) hqa _ Try.underlying23 rfl (bm_len ha) ?_
      refine wpQuiet_load_row (by simp [Region.wanted, yielded, Act.put]) 23 _ rfl _ _ rfl (bvs a) hqa _ Try.underlying23 rfl (bm_len ha) ?_
      quiet_step ((go_at_call 20; exact Calls.regrown_of (E.out.2.2.1 _)))
      refine wpQuiet_load_row (by simp [Region.wanted, yielded, Act.put]) 23 _ rfl _ _ rfl (bvs a) hqa _ Try.underlying23 rfl (bm_len ha) ?_
      iterate 3 (quiet_step (fail))
      refine wpQuiet_load_row (by simp [Region.wanted, yielded, Act.put]) 23 _ rfl _ _ rfl (bvs x) hqx _ Try.underlying23 rfl (bm_len hx) ?_
      refine wpQuiet_load_row (by simp [Region.wanted, yielded, Act.put]) 23 _ rfl _ _ rfl (bvs b) hqb _ Try.underlying23 rfl (bm_len hb) ?_
      quiet_step ((go_at_call 20; exact Calls.regrown_of (E.out.2.2.2.1 _)))
      refine wpQuiet_load_row (by simp [Region.wanted, yielded, Act.put]) 23 _ rfl _ _ rfl (bvs x) hqx _ Try.underlying23 rfl (bm_len hx) ?_
      iterate 3 (quiet_step (fail))
      refine wpQuiet_load_row (by simp [Region.wanted, yielded, Act.put]) 23 _ rfl _ _ rfl (bvs x) hqx _ Try.underlying23 rfl (bm_len hx) ?_
      quiet_step ((go_at_call 22; exact Calls.regrown_of (E.out.2.2.2.2.1 _)))
      iterate 4 (quiet_step (fail))
      refine wpQuiet_load_row (by simp [Region.wanted, yielded, Act.put]) 23 _ rfl _ _ rfl (bvs x) hqx _ Try.underlying23 rfl (bm_len hx) ?_
      quiet_step ((go_at_call 18; exact Calls.regrown_of (E.out.2.2.2.2.2 _)))
      iterate 2 (quiet_step (fail))
      quiet_step ((go_at_call 24; exact Calls.regrown_of (wakes04_any _)))
      iterate 2 (quiet_step (fail))
      refine wpQuiet_nil ?_
      intro _ hw'
      obtain ⟨pq, rfl⟩ := hw'
      go_wp2
      go_ret
      exact Ret.mk rfl (hB.trans ((below_regrown wr pq.d pq.os).mono hzr))

set_option maxRecDepth 100000 in
theorem bitmapOrs_walk {H : Type} {enc : TypeId × Value → H} {W : World} {base : Nat} {v0 v1 : Value} {d0 d1 : DataW H} {p0 p1 : List MemPlace}
    (k0 : Value.okWide Try.prog W .any base 23 v0) (h0 : DataW.Trod enc Try.prog W 0 (fun _ => true) true 23 v0 d0 p0)
    (k1 : Value.okWide Try.prog W .any base 23 v1) (h1 : DataW.Trod enc Try.prog W 0 (fun _ => true) true 23 v1 d1 p1)
    : Calls Try.prog 5 #[v0, v1] W fun e W' => e = .returned (.bool true) ∧ Below W.heap.size W W' := by
  obtain ⟨a, ha, rfl⟩ := open_bytes_arr Try.underlying23 Try.underlying5 (by kernel_rfl) (by kernel_rfl) k0 h0
  obtain ⟨b, hb, rfl⟩ := open_bytes_arr Try.underlying23 Try.underlying5 (by kernel_rfl) (by kernel_rfl) k1 h1
  exact bitmapOrs_core ha hb W
end Go.Proofs.Ythbaogjamenndaa
