/- The statements of layer 4: BitmapRuns. -/
import Derived.Test.YthbaogjamenndaaBmpLaws
namespace Go.Proofs.Ythbaogjamenndaa
set_option linter.unusedSimpArgs false
set_option linter.unusedVariables false
open Go.RowKit Go.ChangeShapes Go.WideShapes Go.Sort

/-! ### plain -/
theorem least_none_free {m : List UInt8} {k n f : Nat} (h : leastRun m k n = none) (hn : 1 ≤ n) (hf : f + n ≤ k) : ¬ freeN m f n := fun hfr => by
  have h1 := leastFrom_none k 0 h f (by omega) (by omega)
  have h2 := (free_rl (m := m) (k := k) n f hf).1 hfr
  omega
theorem freeN_zero (m : List UInt8) (f : Nat) : freeN m f 0 := fun b h1 h2 => by omega
theorem freeN_back {m : List UInt8} {b r : Nat} (h : freeN m (b - r) r) (hr : r ≤ b) (hb : bit m b = false) : freeN m (b + 1 - (r + 1)) (r + 1) := fun c h1 h2 => by
  rcases Nat.lt_or_ge c b with h3 | h3
  · exact h c (by omega) (by omega)
  · obtain rfl : c = b := by omega
    exact hb
theorem freeN_one {m : List UInt8} {f j : Nat} : (!decide (freeN m f (j + 1))) = ((!decide (freeN m f j)) || bit m (f + j)) := by
  by_cases h : freeN m f j
  · cases hb : bit m (f + j)
    · have : freeN m f (j + 1) := fun c h1 h2 => by
        rcases Nat.lt_or_ge c (f + j) with h3 | h3
        · exact h c h1 h3
        · obtain rfl : c = f + j := by omega
          exact hb
      simp [h, this]
    · have : ¬ freeN m f (j + 1) := fun hh => by
        have := hh (f + j) (by omega) (by omega)
        rw [hb] at this; cases this
      simp [h, this]
  · have : ¬ freeN m f (j + 1) := fun hh => h fun c h1 h2 => hh c h1 (by omega)
    simp [h, this]

set_option maxHeartbeats 8000000 in
set_option maxRecDepth 100000 in
theorem bitmapRuns_core {m : List UInt8} (hm : m.length = 16) (blocks n : Int) (hb : 0 ≤ blocks ∧ blocks ≤ 255) (hn : 0 ≤ n ∧ n ≤ 255) (w : World) :
    Calls Try.prog 4 #[bmv m, .int .u8 blocks, .int .u8 n] w (Ret w (.bool true)) := by
  obtain ⟨r, N, hr, hr9, N1, N9⟩ : ∃ (r : Int) (N : Nat), Int.tmod n 12 = r ∧ 1 + r = (N : Int) ∧ 1 ≤ N ∧ N ≤ 12 := ⟨_, (1 + Int.tmod n 12).toNat, rfl, by rw [Int.tmod_eq_emod_of_nonneg hn.1]; omega, by rw [Int.tmod_eq_emod_of_nonneg hn.1]; omega, by rw [Int.tmod_eq_emod_of_nonneg hn.1]; omega⟩
  obtain ⟨q, k, hq, hq9, K1, K9⟩ : ∃ (q : Int) (k : Nat), Int.tmod blocks 128 = q ∧ 1 + q = (k : Int) ∧ 1 ≤ k ∧ k ≤ 128 := ⟨_, (1 + Int.tmod blocks 128).toNat, rfl, by rw [Int.tmod_eq_emod_of_nonneg hb.1]; omega, by rw [Int.tmod_eq_emod_of_nonneg hb.1]; omega, by rw [Int.tmod_eq_emod_of_nonneg hb.1]; omega⟩
  have v0 : IntKind.i64.wrap n = n := wrap_small _ hn.1 (by omega)
  have v1 : IntKind.i64.wrap blocks = blocks := wrap_small _ hb.1 (by omega)
  have e1 := fun W => run_any hm k N W
  have hcl := cntTo_le m 128
  unfold bmv
  go_enter Try.func4, Try.ntmps4
  cases hlr : leastRun m k N with
  | none =>
    have HV : runR m k N = (0, 14) := runR_none N1 K1 K9 hlr
    rw [HV] at e1
    unfold bmv at e1
    have HNO : Hid (∀ f, f + N ≤ k → ¬ freeN m f N) := Lib.hid fun f hf => least_none_free hlr N1 hf
    clear HV hlr
    go_upto_region 2 with (fail)
    generalize hW : World.alloc w _ = W
    have bM : W.heap[w.heap.size]? = some (.cells (bvs m).toArray 23) := by rw [← hW]; exact heap_alloc_new _ _
    have hB : RowKit.Below w.heap.size w W := by rw [← hW]; exact (Below.refl _ _).alloc (Nat.le_refl _) _
    have hz0 : w.heap.size < W.heap.size := by rw [← hW]; simp
    clear hW
    go_wp2_with (refine wpList_load_row rfl 23 (.tmp 3) rfl _ rfl _ (bvs m).toArray (0, 0) _ bM Try.underlying23 rfl (bm_info hm) ?_)
    refine (e1 _).mono ?_
    rintro e W1 ⟨rfl, hb1⟩
    have bM1 := bBlk hb1 hz0 bM
    have hB1 := hB.trans (hb1.mono hB.size)
    clear bM hB hb1
    go_wp2_with fail
    go_loopw [11, 12] (fun run b wr => ∃ (c j : Nat), run = .int .i64 c ∧ b = .int .i64 j ∧ j ≤ k ∧ c ≤ j ∧ c < N ∧ freeN m (j - c) c ∧ wr.heap[w.heap.size]? = some (.cells (bvs m).toArray 23) ∧ RowKit.Below w.heap.size w wr) (fun _ b _ => k - (intOf b).toNat)
    case atStart => exact ⟨0, 0, rfl, rfl, by omega, by omega, by omega, freeN_zero _ _, bM1, hB1⟩
    case round =>
      clear bM1 hB1
      obtain ⟨c, j, rfl, rfl, hj, hc, hcN, hfr, bM, hB⟩ := hrel
      have HFR := Lib.hid hfr
      clear hfr
      by_cases hlt : j < k
      · have g1 : (j : Int) < k := by omega
        have s1 := fun W => has_any hm j W
        rw [hasB_nat (by omega)] at s1
        unfold bmv at s1
        have w1 : IntKind.i64.wrap ((c : Int) + 1) = ((c + 1 : Nat) : Int) := by rw [wrap_small _ (by omega) (by omega)]; omega
        have w2 : IntKind.i64.wrap ((j : Int) + 1) = ((j + 1 : Nat) : Int) := by rw [wrap_small _ (by omega) (by omega)]; omega
        have hl0 : w.heap.size < wr.heap.size := (Array.getElem?_eq_some_iff.1 bM).1
        go_wp2_with (refine wpList_load_row rfl 23 (.tmp 3) rfl _ rfl _ (bvs m).toArray (0, 0) _ bM Try.underlying23 rfl (bm_info hm) ?_)
        refine (s1 _).mono ?_
        rintro e W2 ⟨rfl, hb2⟩
        have bM2 := bBlk hb2 hl0 bM
        have hB2 := hB.trans (hb2.mono hB.size)
        cases hbit : bit m j
        · have hlt2 : c + 1 < N := by
            rcases Nat.lt_or_ge (c + 1) N with h | h
            · exact h
            · obtain rfl : N = c + 1 := by omega
              exact absurd (freeN_back HFR.out hc hbit) (HNO.out _ (by omega))
          have g2 : ¬ (N : Int) ≤ ((c + 1 : Nat) : Int) := by omega
          have hfr2 := Lib.hid (freeN_back HFR.out hc hbit)
          go_wp2_with fail
          go_roundw
          case rel => exact ⟨c + 1, j + 1, rfl, rfl, by omega, by omega, hlt2, hfr2.out, bM2, hB2⟩
          case measure => simp [intOf]; omega
        · have g2 : ¬ (N : Int) ≤ 0 := by omega
          go_wp2_with fail
          go_roundw
          case rel => exact ⟨0, j + 1, rfl, rfl, by omega, by omega, by omega, freeN_zero _ _, bM2, hB2⟩
          case measure => simp [intOf]; omega
      · have g1 : ¬ (j : Int) < k := by omega
        go_wp2_with fail
        refine (wakes04_any _).mono ?_
        rintro e W2 ⟨rfl, hb2⟩
        go_wp2
        go_ret
        exact Ret.mk rfl (hB.trans (hb2.mono hB.size))
  | some a =>
    have HV : runR m k N = ((a : Int), 0) := runR_some N1 K1 K9 hlr
    obtain ⟨f1, f2, f3⟩ := least_free hlr N1
    have F3 := Lib.hid f3
    have F2 := Lib.hid f2
    have e2 := fun W => with_any hm (a : Int) N W
    rw [withR_free N1 (by omega) f2] at e2
    rw [HV] at e1
    have hc := cntTo_putN hm (by omega) f2
    have hP : (putN m a N).length = 16 := by rw [putN_len]; exact hm
    have hor : orM m (putN m a N) = putN m a N := orM_more hm (by omega)
    have e3 : ∀ W, Calls Try.prog 14 #[bmv (putN m a N), .int .i64 a, .int .i64 1] W (Ret W (.tuple #[bmv z16, .int .i64 11])) := fun W => by
      have := with_any hP (a : Int) 1 W
      rw [show (1 : Int) = ((1 : Nat) : Int) from rfl, withR_used (b := a) (Nat.le_refl 1) (by omega) (Nat.le_refl a) (by omega) (by rw [bit_putN hm (by omega)]; simp; omega)] at this
      exact this
    generalize putN m a N = P at *
    have s1 := fun W => count_any hP 128 W
    have s2 := fun W => count_any hm 128 W
    have s3 := fun W => or_any hm hP W
    rw [show (min (128 : Int) 128).toNat = 128 from by decide] at s1 s2
    rw [hc] at s1
    rw [hor] at s3
    unfold bmv at e1 e2 e3 s1 s2 s3
    have S := Lib.hid (And.intro s1 (And.intro s2 (And.intro s3 (bm_same hP))))
    have E1 := Lib.hid e1
    have E2 := Lib.hid e2
    have E3 := Lib.hid e3
    clear HV hlr f2 f3 hc s1 s2 s3 hor e1 e2 e3
    have ha0 : ¬ (a : Int) < 0 := by omega
    have ha1 : ¬ (k : Int) < (a : Int) + N := by omega
    have wA : IntKind.i64.wrap ((a : Int) + N) = (a : Int) + N := wrap_small _ (by omega) (by omega)
    go_upto_region 2 with (fail)
    generalize hW : World.alloc w _ = W
    have bM : W.heap[w.heap.size]? = some (.cells (bvs m).toArray 23) := by rw [← hW]; exact heap_alloc_new _ _
    have hB : RowKit.Below w.heap.size w W := by rw [← hW]; exact (Below.refl _ _).alloc (Nat.le_refl _) _
    have hz0 : w.heap.size < W.heap.size := by rw [← hW]; simp
    clear hW
    go_wp2_with (refine wpList_load_row rfl 23 (.tmp 3) rfl _ rfl _ (bvs m).toArray (0, 0) _ bM Try.underlying23 rfl (bm_info hm) ?_)
    refine (E1.out _).mono ?_
    rintro e W1 ⟨rfl, hb1⟩
    have bM1 := bBlk hb1 hz0 bM
    have hB1 := hB.trans (hb1.mono hB.size)
    clear bM hB hb1
    go_wp2_with fail
    go_loopw [13] (fun b wr => ∃ (j : Nat), b = .int .i64 j ∧ a ≤ j ∧ j ≤ a + N ∧ wr.heap[w.heap.size]? = some (.cells (bvs m).toArray 23) ∧ RowKit.Below w.heap.size w wr) (fun b _ => a + N - (intOf b).toNat)
    case atStart => exact ⟨a, rfl, by omega, by omega, bM1, hB1⟩
    case round =>
      clear bM1 hB1
      obtain ⟨j, rfl, hj1, hj2, bM, hB⟩ := hrel
      have hl0 : w.heap.size < wr.heap.size := (Array.getElem?_eq_some_iff.1 bM).1
      by_cases hlt : j < a + N
      · have g1 : (j : Int) < (a : Int) + N := by omega
        have s1 := fun W => has_any hm j W
        rw [hasB_nat (by omega), F2.out j hj1 hlt] at s1
        unfold bmv at s1
        have w2 : IntKind.i64.wrap ((j : Int) + 1) = ((j + 1 : Nat) : Int) := by rw [wrap_small _ (by omega) (by omega)]; omega
        go_wp2_with (refine wpList_load_row rfl 23 (.tmp 3) rfl _ rfl _ (bvs m).toArray (0, 0) _ bM Try.underlying23 rfl (bm_info hm) ?_)
        refine (s1 _).mono ?_
        rintro e W2 ⟨rfl, hb2⟩
        have bM2 := bBlk hb2 hl0 bM
        have hB2 := hB.trans (hb2.mono hB.size)
        go_wp2_with fail
        go_roundw
        case rel => exact ⟨j + 1, rfl, by omega, by omega, bM2, hB2⟩
        case measure => simp [intOf]; omega
      · have g1 : ¬ (j : Int) < (a : Int) + N := by omega
        go_wp2_with fail
        clear hlt g1
        go_loopw [14, 15, 16] (fun fr us b wr' => ∃ (f : Nat), fr = .int .i64 f ∧ f ≤ a ∧ wr'.heap[w.heap.size]? = some (.cells (bvs m).toArray 23) ∧ RowKit.Below w.heap.size w wr') (fun fr _ _ _ => a - (intOf fr).toNat)
        case atStart => exact ⟨0, rfl, by omega, bM, hB⟩
        case round =>
          clear bM hB hl0
          obtain ⟨f, rfl, hf, bM, hB⟩ := hrel
          have hl0 : w.heap.size < wr.heap.size := (Array.getElem?_eq_some_iff.1 bM).1
          by_cases hlt : f < a
          · have g1 : (f : Int) < a := by omega
            go_wp2_with fail
            go_loopw [15, 16] (fun us b wq => ∃ (j : Nat), us = .bool (!decide (freeN m f j)) ∧ b = .int .i64 ((f + j : Nat) : Int) ∧ j ≤ N ∧ wq.heap[w.heap.size]? = some (.cells (bvs m).toArray 23) ∧ RowKit.Below w.heap.size w wq) (fun _ b _ => f + N - (intOf b).toNat)
            case atStart => exact ⟨0, by simp [freeN_zero], rfl, by omega, bM, hB⟩
            case round =>
              clear bM hB hl0
              obtain ⟨j, rfl, rfl, hj, bM, hB⟩ := hrel
              have hl0 : w.heap.size < wr.heap.size := (Array.getElem?_eq_some_iff.1 bM).1
              have wF : IntKind.i64.wrap ((f : Int) + N) = (f : Int) + N := wrap_small _ (by omega) (by omega)
              by_cases hlj : j < N
              · have g2 : ((f + j : Nat) : Int) < (f : Int) + N := by omega
                have w2 : IntKind.i64.wrap (((f + j : Nat) : Int) + 1) = ((f + (j + 1) : Nat) : Int) := by rw [wrap_small _ (by omega) (by omega)]; omega
                have s1 := fun W => has_any hm ((f + j : Nat) : Int) W
                rw [hasB_nat (by omega)] at s1
                unfold bmv at s1
                have hmore := Lib.hid (freeN_one (m := m) (f := f) (j := j))
                have S1 := Lib.hid s1
                clear s1
                cases hd : decide (freeN m f j)
                · have hd2 := hmore.out
                  rw [hd] at hd2
                  simp only [Bool.not_false, Bool.true_or] at hd2
                  have HD2 := Lib.hid hd2
                  clear hd2
                  simp only [Bool.not_false]
                  clear hd hmore
                  go_wp2_with fail
                  go_roundw
                  case rel => exact ⟨j + 1, by rw [HD2.out], rfl, by omega, bM, hB⟩
                  case measure => simp [intOf]; omega
                · have hd2 := hmore.out
                  rw [hd] at hd2
                  simp only [Bool.not_true, Bool.false_or] at hd2
                  have HD2 := Lib.hid hd2
                  clear hd2 hmore hd
                  simp only [Bool.not_true]
                  go_wp2_with (first | (refine wpList_load_row_g (by simp [Region.wanted, yielded, Act.put]) 23 (.tmp 3) rfl _ rfl _ (bvs m).toArray (0, 0) _ bM Try.underlying23 rfl (bm_info hm) ?_) | fail)
                  refine (S1.out _).mono ?_
                  rintro e W2 ⟨rfl, hb2⟩
                  have bM2 := bBlk hb2 hl0 bM
                  have hB2 := hB.trans (hb2.mono hB.size)
                  go_wp2_with fail
                  go_roundw
                  case rel => exact ⟨j + 1, by rw [HD2.out], rfl, by omega, bM2, hB2⟩
                  case measure => simp [intOf]; omega
              · obtain rfl : j = N := by omega
                have g2 : ¬ ((f + j : Nat) : Int) < (f : Int) + j := by omega
                have hd : decide (freeN m f j) = false := by simpa using F3.out f hlt
                simp only [hd, Bool.not_false]
                have w2 : IntKind.i64.wrap ((f : Int) + 1) = ((f + 1 : Nat) : Int) := by rw [wrap_small _ (by omega) (by omega)]; omega
                clear hd
                go_wp2_with fail
                go_roundw
                case rel => exact ⟨f + 1, rfl, by omega, bM, hB⟩
                case measure => simp [intOf]; omega
          · have g1 : ¬ (f : Int) < a := by omega
            have hB2 := hB
            have bM2 := bM
            have hzr := hB.size
            clear hB bM
            go_wp2_with (refine wpList_load_row rfl 23 (.tmp 3) rfl _ rfl _ (bvs m).toArray (0, 0) _ bM2 Try.underlying23 rfl (bm_info hm) ?_)
            refine (E2.out _).mono ?_
            rintro e W2 ⟨rfl, hb2⟩
            have bM3 := bBlk hb2 hl0 bM2
            have hB3 := hB2.trans (hb2.mono hzr)
            have hz2 := hb2.size
            go_upto_region 32 with (first | (refine wpList_store_row rfl 23 (.tmp 17) (.tmp 106) rfl _ (bvs P).toArray rfl rfl _ (bvs z16).toArray (heap_alloc_new _ _) (bm_info hP) (by simp [bvs, hP, z16]) (all_oneCell_toArray (oneCell_bvs _)) ?_) | fail)
            generalize hX : World.setRow _ _ _ = Y
            have bM4 : Y.heap[w.heap.size]? = some (.cells (bvs m).toArray 23) := by rw [← hX]; exact (setRow_other _ _ _ _ (by omega)).trans ((Below.heap_alloc _ _ _ (by omega)).trans bM3)
            have bP4 : Y.heap[W2.heap.size]? = some (.cells (bvs P).toArray 23) := by rw [← hX]; exact setRow_heap _ _ _ _ _ _ (heap_alloc_new _ _)
            have hB4 : RowKit.Below w.heap.size w Y := by rw [← hX]; exact bSetRow (hB3.alloc (by omega) _) (by omega) _
            have hzP : W2.heap.size < Y.heap.size := (Array.getElem?_eq_some_iff.1 bP4).1
            clear hX
            go_wp2_with (refine wpList_load_row rfl 23 (.tmp 17) rfl _ rfl _ (bvs P).toArray (0, 0) _ bP4 Try.underlying23 rfl (bm_info hP) ?_)
            refine (E3.out _).mono ?_
            rintro e W3 ⟨rfl, hb3⟩
            have bM5 := bBlk hb3 (by omega) bM4
            have bP5 := bBlk hb3 hzP bP4
            have hB5 := hB4.trans (hb3.mono (by omega))
            have hz3 := hb3.size
            go_upto_region 33 with (first | (refine wpList_store_row rfl 23 (.tmp 19) (.tmp 112) rfl _ (bvs z16).toArray rfl rfl _ (bvs z16).toArray (heap_alloc_new _ _) (bm_info (m := z16) rfl) (by simp [bvs, z16]) (all_oneCell_toArray (oneCell_bvs _)) ?_) | fail)
            generalize hX : World.setRow _ _ _ = Z
            have bM6 : Z.heap[w.heap.size]? = some (.cells (bvs m).toArray 23) := by rw [← hX]; exact (setRow_other _ _ _ _ (by omega)).trans ((Below.heap_alloc _ _ _ (by omega)).trans bM5)
            have bP6 : Z.heap[W2.heap.size]? = some (.cells (bvs P).toArray 23) := by rw [← hX]; exact (setRow_other _ _ _ _ (by omega)).trans ((Below.heap_alloc _ _ _ (by omega)).trans bP5)
            have hB6 : RowKit.Below w.heap.size w Z := by rw [← hX]; exact bSetRow (hB5.alloc (by omega) _) (by omega) _
            clear hX
            have hqM := range_regrown bM6
            have hqP := range_regrown bP6
            have w2 : IntKind.i64.wrap (((cntTo m 128 : Nat) : Int) + N) = ((cntTo m 128 + N : Nat) : Int) := by rw [wrap_small _ (by omega) (by omega)]; omega
            refine wp_region_quiet_below (by kernel_rfl) (by kernel_rfl) ?_
            iterate 7 (quiet_step (fail))
            refine wpQuiet_load_row (by simp [Region.wanted, yielded, Act.put]) 23 _ rfl _ _ rfl (bvs P) hqP _ Try.underlying23 rfl (bm_len hP) ?_
            quiet_step ((go_at_call 22; exact Calls.regrown_of (S.out.1 _)))
            refine wpQuiet_load_row (by simp [Region.wanted, yielded, Act.put]) 23 _ rfl _ _ rfl (bvs m) hqM _ Try.underlying23 rfl (bm_len hm) ?_
            quiet_step ((go_at_call 22; exact Calls.regrown_of (S.out.2.1 _)))
            iterate 5 (quiet_step (fail))
            refine wpQuiet_load_row (by simp [Region.wanted, yielded, Act.put]) 23 _ rfl _ _ rfl (bvs m) hqM _ Try.underlying23 rfl (bm_len hm) ?_
            refine wpQuiet_load_row (by simp [Region.wanted, yielded, Act.put]) 23 _ rfl _ _ rfl (bvs P) hqP _ Try.underlying23 rfl (bm_len hP) ?_
            quiet_step ((go_at_call 20; exact Calls.regrown_of (S.out.2.2.1 _)))
            refine wpQuiet_load_row (by simp [Region.wanted, yielded, Act.put]) 23 _ rfl _ _ rfl (bvs P) hqP _ Try.underlying23 rfl (bm_len hP) ?_
            have hsame := S.out.2.2.2
            iterate 3 (quiet_step (fail))
            quiet_step ((go_at_call 24; exact Calls.regrown_of ((fun W => wakes04_any W) _)))
            iterate 2 (quiet_step (fail))
            refine wpQuiet_nil ?_
            intro _ hw'
            obtain ⟨pq, rfl⟩ := hw'
            have hbV := below_regrown Z pq.d pq.os
            generalize grow (redrawn Z pq.d) pq.os = V at *
            have hB7 := hB6.trans (hbV.mono hB6.size)
            clear hqM hqP w2
            go_wp2_with fail
            go_ret
            exact Ret.mk rfl hB7

set_option maxRecDepth 100000 in
theorem bitmapRuns_walk {H : Type} {enc : TypeId × Value → H} {W : World} {base : Nat} {v0 v1 v2 : Value} {d0 d1 d2 : DataW H} {p0 p1 p2 : List MemPlace}
    (k0 : Value.okWide Try.prog W .any base 23 v0) (h0 : DataW.Trod enc Try.prog W 0 (fun _ => true) true 23 v0 d0 p0)
    (k1 : Value.okWide Try.prog W .any base 5 v1) (h1 : DataW.Trod enc Try.prog W 0 (fun _ => true) true 5 v1 d1 p1)
    (k2 : Value.okWide Try.prog W .any base 5 v2) (h2 : DataW.Trod enc Try.prog W 0 (fun _ => true) true 5 v2 d2 p2)
    : Calls Try.prog 4 #[v0, v1, v2] W fun e W' => e = .returned (.bool true) ∧ Below W.heap.size W W' := by
  obtain ⟨a, ha, rfl⟩ := open_bytes_arr Try.underlying23 Try.underlying5 (by kernel_rfl) (by kernel_rfl) k0 h0
  obtain ⟨b, rfl, -, -, wb⟩ := open_int Try.underlying5 k1 h1
  obtain ⟨n, rfl, -, -, wn⟩ := open_int Try.underlying5 k2 h2
  exact bitmapRuns_core ha b n (wf_u8 wb) (wf_u8 wn) W
end Go.Proofs.Ythbaogjamenndaa
