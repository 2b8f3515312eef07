/- The statements of layer 4: BitmapFills (a draft). -/
import Derived.Test.YthbaogjamenndaaBmpLaws
namespace Go.Proofs.Ythbaogjamenndaa
set_option linter.unusedSimpArgs false
set_option linter.unusedVariables false
open Go.RowKit Go.ChangeShapes Go.WideShapes Go.Sort

set_option maxHeartbeats 4000000 in
set_option maxRecDepth 100000 in
theorem bitmapFills_core {m : List UInt8} (hm : m.length = 16) (n : Int) (hn : 0 ≤ n ∧ n ≤ 255) (w : World) :
    Calls Try.prog 6 #[bmv m, .int .u8 n] w (Ret w (.bool true)) := by
  obtain ⟨N, hN, N1, N9⟩ : ∃ N : Nat, 1 + Int.tmod n 9 = (N : Int) ∧ 1 ≤ N ∧ N ≤ 9 := ⟨(1 + Int.tmod n 9).toNat, by rw [Int.tmod_eq_emod_of_nonneg hn.1]; omega, by rw [Int.tmod_eq_emod_of_nonneg hn.1]; omega, by rw [Int.tmod_eq_emod_of_nonneg hn.1]; omega⟩
  obtain ⟨r, hr, hr9⟩ : ∃ r : Int, Int.tmod n 9 = r ∧ 1 + r = (N : Int) := ⟨_, rfl, hN⟩
  have v0 : IntKind.i64.wrap n = n := wrap_small _ hn.1 (by omega)
  clear hN
  unfold bmv
  go_enter Try.func6, Try.ntmps6
  go_wp2
  generalize hW : World.alloc w _ = W
  have bM : W.heap[w.heap.size]? = some (.cells (bvs m).toArray 23) := by rw [← hW]; exact heap_alloc_new _ _
  have hB : RowKit.Below w.heap.size w W := by rw [← hW]; exact (Below.refl _ _).alloc (Nat.le_refl _) _
  clear hW
  go_loopw [6, 7] (fun last i wr => ∃ (j : Nat) (M : List UInt8) (q : Int), last = .int .i64 q ∧ i = .int .i64 j ∧ j ≤ 130 ∧ M.length = 16 ∧ j * N ≤ cntTo M 128 ∧ -1 ≤ q ∧ q ≤ 128 ∧ (∀ a, leastRun M 128 N = some a → q < (a : Int)) ∧ wr.heap[w.heap.size]? = some (.cells (bvs M).toArray 23) ∧ RowKit.Below w.heap.size w wr) (fun _ i _ => 130 - (intOf i).toNat)
  case atStart => exact ⟨0, m, -1, rfl, rfl, by omega, hm, by omega, by omega, by omega, fun a _ => by omega, bM, hB⟩
  case round =>
    clear bM hB
    obtain ⟨j, M, q, rfl, rfl, hj, hM, hcnt, hq0, hq1, hrise, bM, hB⟩ := hrel
    have hRISE := Lib.hid hrise
    have HCNT := Lib.hid hcnt
    have hzr := hB.size
    have hl := cntTo_le M 128
    have hj128 : j ≤ 128 := by have : j * 1 ≤ j * N := Nat.mul_le_mul_left _ N1; omega
    clear hrise hcnt
    have g1 : (j : Int) < 130 := by omega
    have e1 := fun W => run_any hM 128 N W
    cases hlr : leastRun M 128 N with
    | none =>
      have HV : runR M 128 N = (0, 14) := runR_none (k := 128) N1 (by omega) (by omega) hlr
      rw [HV] at e1
      unfold bmv at e1
      clear HV hlr
      go_wp2_with (refine wpList_load_row rfl 23 (.tmp 2) rfl _ rfl _ (bvs M).toArray (0, 0) _ bM Try.underlying23 rfl (bm_info hM) ?_)
      refine (e1 _).mono ?_
      rintro e W1 ⟨rfl, hb1⟩
      go_wp2_with fail
      refine (wakes04_any _).mono ?_
      rintro e W2 ⟨rfl, hb2⟩
      go_wp2
      go_ret
      exact Ret.mk rfl ((hB.trans (hb1.mono hzr)).trans (hb2.mono (by have := hb1.size; omega)))
    | some a =>
      have HV : runR M 128 N = ((a : Int), 0) := runR_some (k := 128) N1 (by omega) (by omega) hlr
      obtain ⟨f1, f2, -⟩ := least_free hlr N1
      have hq := hRISE.out a hlr
      have e2 := fun W => with_any hM (a : Int) N W
      rw [withR_free N1 f1 f2] at e2
      rw [HV] at e1
      have hc := cntTo_putN hM f1 f2
      have hP : (putN M a N).length = 16 := by rw [putN_len]; exact hM
      have hup : Hid (∀ a', leastRun (putN M a N) 128 N = some a' → (a : Int) < a') := Lib.hid (fun a' h' => by have := least_rises hM N1 hlr h'; omega)
      generalize putN M a N = P at *
      have s1 := fun W => count_any hP 128 W
      have s2 := fun W => count_any hM 128 W
      rw [show (min (128 : Int) 128).toNat = 128 from by decide] at s1 s2
      rw [hc] at s1
      unfold bmv at e1 e2 s1 s2
      have HC := Lib.hid hc
      have S := Lib.hid (And.intro s1 s2)
      clear HV hlr f2 hc s1 s2
      have ha : (a : Int) + N ≤ 128 := by omega
      have hqa : ¬ (a : Int) ≤ q := by omega
      have ha2 : ¬ (128 : Int) < (a : Int) + N := by omega
      go_wp2_with (refine wpList_load_row rfl 23 (.tmp 2) rfl _ rfl _ (bvs M).toArray (0, 0) _ bM Try.underlying23 rfl (bm_info hM) ?_)
      refine (e1 _).mono ?_
      rintro e W1 ⟨rfl, hb1⟩
      have hl0 : w.heap.size < wr.heap.size := (Array.getElem?_eq_some_iff.1 bM).1
      have bM1 := bBlk hb1 hl0 bM
      have hB1 := hB.trans (hb1.mono hzr)
      have hz1 := hb1.size
      go_wp2_with (refine wpList_load_row rfl 23 (.tmp 2) rfl _ rfl _ (bvs M).toArray (0, 0) _ bM1 Try.underlying23 rfl (bm_info hM) ?_)
      refine (e2 _).mono ?_
      rintro e W2 ⟨rfl, hb2⟩
      have bM2 := bBlk hb2 (by omega) bM1
      have hB2 := hB1.trans (hb2.mono (by omega))
      have hz2 := hb2.size
      go_upto_region 10 with (first | (refine wpList_store_row rfl 23 (.tmp 10) (.tmp 42) rfl _ (bvs P).toArray rfl rfl _ (bvs z16).toArray (heap_alloc_new _ _) (bm_info hP) (by simp [bvs, hP, z16]) (all_oneCell_toArray (oneCell_bvs _)) ?_) | fail)
      generalize hX : World.setRow _ _ _ = Y
      have bM3 : Y.heap[w.heap.size]? = some (.cells (bvs M).toArray 23) := by rw [← hX]; exact (setRow_other _ _ _ _ (by omega)).trans ((Below.heap_alloc _ _ _ (by omega)).trans bM2)
      have bP3 : Y.heap[W2.heap.size]? = some (.cells (bvs P).toArray 23) := by rw [← hX]; exact setRow_heap _ _ _ _ _ _ (heap_alloc_new _ _)
      have hB3 : RowKit.Below w.heap.size w Y := by rw [← hX]; exact bSetRow (hB2.alloc (by omega) _) (by omega) _
      clear hX
      have hqM := range_regrown bM3
      have hqP := range_regrown bP3
      have w1 : IntKind.i64.wrap ((a : Int) + N) = (a : Int) + N := wrap_small _ (by omega) (by omega)
      have w2 : IntKind.i64.wrap (((cntTo M 128 : Nat) : Int) + N) = ((cntTo M 128 : Nat) : Int) + N := wrap_small _ (by omega) (by omega)
      refine wp_region_quiet_below (by kernel_rfl) (by kernel_rfl) ?_
      iterate 14 (quiet_step (fail))
      refine wpQuiet_load_row (by simp [Region.wanted, yielded, Act.put]; omega) 23 _ rfl _ _ rfl (bvs P) hqP _ Try.underlying23 rfl (bm_len hP) ?_
      quiet_step ((go_at_call 22; exact Calls.regrown_of (S.out.1 _)))
      refine wpQuiet_load_row (by simp [Region.wanted, yielded, Act.put]; omega) 23 _ rfl _ _ rfl (bvs M) hqM _ Try.underlying23 rfl (bm_len hM) ?_
      quiet_step ((go_at_call 22; exact Calls.regrown_of (S.out.2 _)))
      iterate 4 (quiet_step (fail))
      refine wpQuiet_nil ?_
      intro _ hw'
      obtain ⟨pq, rfl⟩ := hw'
      have hbV := below_regrown Y pq.d pq.os
      generalize grow (redrawn Y pq.d) pq.os = V at *
      have bM4 := bBlk hbV (Array.getElem?_eq_some_iff.1 bM3).1 bM3
      have bP4 := bBlk hbV (Array.getElem?_eq_some_iff.1 bP3).1 bP3
      have hB4 := hB3.trans (hbV.mono hB3.size)
      clear hqM hqP w1 w2
      go_wp2_with (first
        | (refine wpList_load_row rfl 23 (.tmp 10) rfl _ rfl _ (bvs P).toArray (0, 0) _ bP4 Try.underlying23 rfl (bm_info hP) ?_)
        | (refine wpList_store_row rfl 23 (.tmp 2) (.tmp 66) rfl _ (bvs P).toArray rfl rfl _ (bvs M).toArray bM4 (bm_info hP) (by simp [bvs, hP, hM]) (all_oneCell_toArray (oneCell_bvs _)) ?_))
      generalize hX : World.setRow _ _ _ = Z
      have bZ : Z.heap[w.heap.size]? = some (.cells (bvs P).toArray 23) := by rw [← hX]; exact setRow_heap _ _ _ _ _ _ bM4
      have hBZ : RowKit.Below w.heap.size w Z := by rw [← hX]; exact bSetRow hB4 (Nat.le_refl _) _
      clear hX
      go_roundw
      case rel => exact ⟨j + 1, P, a, rfl, by go_num, by omega, hP, by rw [HC.out, Nat.add_mul, Nat.one_mul]; have := HCNT.out; omega, by omega, by omega, hup.out, bZ, hBZ⟩
      case measure => simp [intOf]; omega

set_option maxRecDepth 100000 in
theorem bitmapFills_walk {H : Type} {enc : TypeId × Value → H} {W : World} {base : Nat} {v0 v1 : Value} {d0 d1 : DataW H} {p0 p1 : List MemPlace}
    (k0 : Value.okWide Try.prog W .any base 23 v0) (h0 : DataW.Trod enc Try.prog W 0 (fun _ => true) true 23 v0 d0 p0)
    (k1 : Value.okWide Try.prog W .any base 5 v1) (h1 : DataW.Trod enc Try.prog W 0 (fun _ => true) true 5 v1 d1 p1)
    : Calls Try.prog 6 #[v0, v1] W fun e W' => e = .returned (.bool true) ∧ Below W.heap.size W W' := by
  obtain ⟨a, ha, rfl⟩ := open_bytes_arr Try.underlying23 Try.underlying5 (by kernel_rfl) (by kernel_rfl) k0 h0
  obtain ⟨n, rfl, -, -, w1⟩ := open_int Try.underlying5 k1 h1
  exact bitmapFills_core ha n (wf_u8 w1) W
end Go.Proofs.Ythbaogjamenndaa
