/- The statements of layer 4: BitmapTells. -/
import Derived.Test.YthbaogjamenndaaBmpWakes
namespace Go.Proofs.Ythbaogjamenndaa
set_option linter.unusedSimpArgs false
set_option linter.unusedVariables false
open Go.RowKit Go.ChangeShapes Go.WideShapes Go.Sort

section
variable {H : Type} {enc : TypeId × Value → H} {w : World}
theorem dec_bm (fuel : Nat) (cs : List Value) (x : DataW H × List MemPlace) (h : DataW.trod enc Try.prog w 0 (fun _ => true) true fuel 23 cs = some x) : ∃ a : List UInt8, cs = bvs a ∧ a.length = 16 := by
  have hc1 : Try.prog.cellsOf 5 = 1 := by kernel_rfl
  have hc2 : Try.prog.cellsOf 23 = 16 := by kernel_rfl
  obtain ⟨xs, m, _, _, hlen, hxl, hx⟩ := DataW.trod_array Try.underlying23 h
  obtain ⟨l, hl, hq⟩ := list_choose (q := fun i (a : UInt8) => (cs.drop (i * 1)).take 1 = [bv a]) 16 (fun i hi => by
    have := hx i hi
    rw [hc1, List.getElem?_eq_getElem (by omega)] at this
    obtain ⟨z, hz, _⟩ := dec_byte Try.underlying5 _ _ _ this
    exact ⟨z, hz⟩)
  have := parts_flatMap (fun a : UInt8 => [bv a]) 1 l cs (by rw [hlen, hc2, hl]) (fun i x hi => hq i x hi)
  exact ⟨l, by rw [this, map_flat]; rfl, hl⟩
end
theorem two_list {α : Type} {l : List α} (h : l.length = 2) : ∃ a b, l = [a, b] := by
  match l, h with
  | [a, b], _ => exact ⟨a, b, rfl⟩
theorem range_of {W : World} {b : Nat} {cs : List Value} {t : TypeId} (h : W.heap[b]? = some (.cells cs.toArray t)) : W.rangeAt b 0 cs := fun j v hj => by
  rw [Nat.zero_add]; exact blk_cell h (by simpa using hj)
theorem range_reg {W : World} {b o : Nat} {cs : List Value} (h : W.rangeAt b o cs) : ∀ w', (∃ p : Regrown, w' = grow (redrawn W p.d) p.os) → w'.rangeAt b o cs := by
  rintro w' ⟨p, rfl⟩ j v hj
  exact cell_regrown (h j v hj) _ _

set_option maxHeartbeats 4000000 in
set_option maxRecDepth 100000 in
theorem bitmapTells_core {m1 m2 : List UInt8} (h1 : m1.length = 16) (h2 : m2.length = 16) (f n : Int) (hn : n ≤ 9223372036854775807) (w : World) :
    Calls Try.prog 3 #[.agg (bvs m1 ++ bvs m2).toArray, .int .i64 f, .int .i64 n] w (Ret w (.bool true)) := by
  have e1 := fun W => with_any h1 f n W
  have e2 := fun W => rwith_any h1 f n W
  have e3 := fun W => run_any h1 f n W
  have e4 := fun W => rrun_any h1 f n hn W
  have hlen := withR_len h1 f n
  have s1 := fun W => has_any h1 f W
  have s2 := fun W => rhas_any h1 f W
  have s3 := fun W => count_any h1 f W
  have s4 := fun W => rcount_any h1 f W
  have s5 := fun W => or_any h1 h2 W
  have s6 := fun W => ror_any h1 h2 W
  have hol := orM_len h1 h2
  generalize withR m1 f n = R1 at *
  generalize runR m1 f n = R2 at *
  generalize hasB m1 f = B1 at *
  generalize ((cntTo m1 (min f 128).toNat : Nat) : Int) = C1 at *
  generalize orM m1 m2 = O1 at *
  obtain ⟨M, c⟩ := R1
  obtain ⟨a, d⟩ := R2
  simp only [] at *
  unfold bmv at *
  have E := Lib.hid (And.intro e1 (And.intro e2 (And.intro e3 e4)))
  have S := Lib.hid (And.intro s1 (And.intro s2 (And.intro s3 (And.intro s4 (And.intro s5 s6)))))
  clear e1 e2 e3 e4 s1 s2 s3 s4 s5 s6
  go_enter Try.func3, Try.ntmps3
  go_upto_region 1 with (fail)
  generalize hW : World.alloc w _ = W
  have bA : W.heap[w.heap.size]? = some (.cells (bvs m1 ++ bvs m2).toArray 24) := by rw [← hW]; exact heap_alloc_new _ _
  have hB : RowKit.Below w.heap.size w W := by rw [← hW]; exact (Below.refl _ _).alloc (Nat.le_refl _) _
  have hz : w.heap.size < W.heap.size := by rw [← hW]; simp
  clear hW
  have hr1 := (range_append.1 (range_of bA)).1
  go_wp2_with (refine wpList_load_mid rfl 23 (.tmp 16) rfl w.heap.size 0 rfl (bvs m1) _ hr1 Try.underlying23 rfl (bm_len h1) ?_)
  refine (E.out.1 _).mono ?_
  rintro e W1 ⟨rfl, hb1⟩
  have bA1 := bBlk hb1 hz bA
  have hB1 := hB.trans (hb1.mono (by omega))
  have hz1 := hb1.size
  clear hb1 bA hr1
  go_upto_region 2 with (first | (refine wpList_store_row rfl 23 (.tmp 7) (.tmp 21) rfl _ (bvs M).toArray rfl rfl _ (bvs z16).toArray (heap_alloc_new _ _) (bm_info hlen) (by simp [bvs, hlen, z16]) (all_oneCell_toArray (oneCell_bvs _)) ?_) | fail)
  generalize hX : World.setRow _ _ _ = X
  have bA2 : X.heap[w.heap.size]? = some (.cells (bvs m1 ++ bvs m2).toArray 24) := by rw [← hX]; exact (setRow_other _ _ _ _ (by omega)).trans ((Below.heap_alloc _ _ _ (by omega)).trans bA1)
  have bN2 : X.heap[W1.heap.size]? = some (.cells (bvs M).toArray 23) := by rw [← hX]; exact setRow_heap _ _ _ _ _ _ (heap_alloc_new _ _)
  have hB2 : RowKit.Below w.heap.size w X := by rw [← hX]; exact bSetRow (hB1.alloc (by omega) _) (by omega) _
  have hz2 : W1.heap.size < X.heap.size := by rw [← hX, setRow_size]; simp
  clear hX bA1
  have hr1 := (range_append.1 (range_of bA2)).1
  go_wp2_with (refine wpList_load_mid rfl 23 (.tmp 24) rfl w.heap.size 0 rfl (bvs m1) _ hr1 Try.underlying23 rfl (bm_len h1) ?_)
  refine (E.out.2.1 _).mono ?_
  rintro e W3 ⟨rfl, hb3⟩
  have bA3 := bBlk hb3 (by omega) bA2
  have bN3 := bBlk hb3 hz2 bN2
  have hB3 := hB2.trans (hb3.mono (by omega))
  have hz3 := hb3.size
  clear hb3 bA2 bN2 hr1
  go_upto_region 3 with (first | (refine wpList_store_row rfl 23 (.tmp 9) (.tmp 29) rfl _ (bvs M).toArray rfl rfl _ (bvs z16).toArray (heap_alloc_new _ _) (bm_info hlen) (by simp [bvs, hlen, z16]) (all_oneCell_toArray (oneCell_bvs _)) ?_) | fail)
  generalize hX : World.setRow _ _ _ = Y
  have bA4 : Y.heap[w.heap.size]? = some (.cells (bvs m1 ++ bvs m2).toArray 24) := by rw [← hX]; exact (setRow_other _ _ _ _ (by omega)).trans ((Below.heap_alloc _ _ _ (by omega)).trans bA3)
  have bN4 : Y.heap[W1.heap.size]? = some (.cells (bvs M).toArray 23) := by rw [← hX]; exact (setRow_other _ _ _ _ (by omega)).trans ((Below.heap_alloc _ _ _ (by omega)).trans bN3)
  have bP4 : Y.heap[W3.heap.size]? = some (.cells (bvs M).toArray 23) := by rw [← hX]; exact setRow_heap _ _ _ _ _ _ (heap_alloc_new _ _)
  have hB4 : RowKit.Below w.heap.size w Y := by rw [← hX]; exact bSetRow (hB3.alloc (by omega) _) (by omega) _
  have hz4 : W3.heap.size < Y.heap.size := by rw [← hX, setRow_size]; simp
  clear hX bA3 bN3
  have hr1 := (range_append.1 (range_of bA4)).1
  go_wp2_with (refine wpList_load_mid rfl 23 (.tmp 32) rfl w.heap.size 0 rfl (bvs m1) _ hr1 Try.underlying23 rfl (bm_len h1) ?_)
  refine (E.out.2.2.1 _).mono ?_
  rintro e W5 ⟨rfl, hb5⟩
  have bA5 := bBlk hb5 (by omega) bA4
  have bN5 := bBlk hb5 (by omega) bN4
  have bP5 := bBlk hb5 hz4 bP4
  have hB5 := hB4.trans (hb5.mono (by omega))
  have hz5 := hb5.size
  clear hb5 bA4 bN4 bP4 hr1
  have hr1 := (range_append.1 (range_of bA5)).1
  go_wp2_with (refine wpList_load_mid rfl 23 (.tmp 40) rfl w.heap.size 0 rfl (bvs m1) _ hr1 Try.underlying23 rfl (bm_len h1) ?_)
  refine (E.out.2.2.2 _).mono ?_
  rintro e V ⟨rfl, hb6⟩
  have bA6 := bBlk hb6 (by omega) bA5
  have bN6 := bBlk hb6 (by omega) bN5
  have bP6 := bBlk hb6 (by omega) bP5
  have hB6 := hB5.trans (hb6.mono (by omega))
  clear hb6 bA5 bN5 bP5 hr1
  go_upto_region 5 with (fail)
  have hq1 := range_reg (range_append.1 (range_of bA6)).1
  have hq2 := range_reg (range_append.1 (range_of bA6)).2
  rw [show 0 + (bvs m1).length = 16 from by rw [bvs_len, h1]] at hq2
  have hqM := range_regrown bN6
  have hqP := range_regrown bP6
  have hz6 := hB6.size
  have heq1 := bm_same hlen
  have heq2 := bm_same hol
  refine wp_region_quiet_below (by kernel_rfl) (by kernel_rfl) ?_
  iterate 1 (quiet_step (fail))
  refine wpQuiet_load_row (by simp [Region.wanted, yielded, Act.put]) 23 _ rfl _ _ rfl (bvs m1) hq1 _ Try.underlying23 rfl (bm_len h1) ?_
  iterate 1 (quiet_step (fail))
  quiet_step ((go_at_call 18; exact Calls.regrown_of (S.out.1 _)))
  iterate 1 (quiet_step (fail))
  refine wpQuiet_load_row (by simp [Region.wanted, yielded, Act.put]) 23 _ rfl _ _ rfl (bvs m1) hq1 _ Try.underlying23 rfl (bm_len h1) ?_
  iterate 1 (quiet_step (fail))
  quiet_step ((go_at_call 19; exact Calls.regrown_of (S.out.2.1 _)))
  iterate 2 (quiet_step (fail))
  refine wpQuiet_load_row (by simp [Region.wanted, yielded, Act.put]) 23 _ rfl _ _ rfl (bvs M) hqM _ Try.underlying23 rfl (bm_len hlen) ?_
  refine wpQuiet_load_row (by simp [Region.wanted, yielded, Act.put]) 23 _ rfl _ _ rfl (bvs M) hqP _ Try.underlying23 rfl (bm_len hlen) ?_
  iterate 3 (quiet_step (fail))
  iterate 5 (quiet_step (fail))
  iterate 5 (quiet_step (fail))
  iterate 5 (quiet_step (fail))
  iterate 1 (quiet_step (fail))
  refine wpQuiet_load_row (by simp [Region.wanted, yielded, Act.put]) 23 _ rfl _ _ rfl (bvs m1) hq1 _ Try.underlying23 rfl (bm_len h1) ?_
  iterate 1 (quiet_step (fail))
  refine wpQuiet_load_row (by simp [Region.wanted, yielded, Act.put]) 23 _ rfl _ _ rfl (bvs m2) hq2 _ Try.underlying23 rfl (bm_len h2) ?_
  quiet_step ((go_at_call 20; exact Calls.regrown_of (S.out.2.2.2.2.1 _)))
  iterate 1 (quiet_step (fail))
  refine wpQuiet_load_row (by simp [Region.wanted, yielded, Act.put]) 23 _ rfl _ _ rfl (bvs m1) hq1 _ Try.underlying23 rfl (bm_len h1) ?_
  iterate 1 (quiet_step (fail))
  refine wpQuiet_load_row (by simp [Region.wanted, yielded, Act.put]) 23 _ rfl _ _ rfl (bvs m2) hq2 _ Try.underlying23 rfl (bm_len h2) ?_
  quiet_step ((go_at_call 21; exact Calls.regrown_of (S.out.2.2.2.2.2 _)))
  iterate 3 (quiet_step (fail))
  iterate 1 (quiet_step (fail))
  refine wpQuiet_load_row (by simp [Region.wanted, yielded, Act.put]) 23 _ rfl _ _ rfl (bvs m1) hq1 _ Try.underlying23 rfl (bm_len h1) ?_
  iterate 1 (quiet_step (fail))
  quiet_step ((go_at_call 22; exact Calls.regrown_of (S.out.2.2.1 _)))
  iterate 1 (quiet_step (fail))
  refine wpQuiet_load_row (by simp [Region.wanted, yielded, Act.put]) 23 _ rfl _ _ rfl (bvs m1) hq1 _ Try.underlying23 rfl (bm_len h1) ?_
  iterate 1 (quiet_step (fail))
  quiet_step ((go_at_call 23; exact Calls.regrown_of (S.out.2.2.2.1 _)))
  iterate 3 (quiet_step (fail))
  quiet_step ((go_at_call 24; exact Calls.regrown_of (wakes04_any _)))
  iterate 2 (quiet_step (fail))
  refine wpQuiet_nil ?_
  intro _ hw'
  obtain ⟨pq, rfl⟩ := hw'
  go_wp2
  go_ret
  exact Ret.mk rfl (hB6.trans ((below_regrown V pq.d pq.os).mono hz6))

set_option maxRecDepth 100000 in
theorem bitmapTells_walk {H : Type} {enc : TypeId × Value → H} {W : World} {base : Nat} {v0 v1 v2 : Value} {d0 d1 d2 : DataW H} {p0 p1 p2 : List MemPlace}
    (k0 : Value.okWide Try.prog W .any base 24 v0) (h0 : DataW.Trod enc Try.prog W 0 (fun _ => true) true 24 v0 d0 p0)
    (k1 : Value.okWide Try.prog W .any base 3 v1) (h1 : DataW.Trod enc Try.prog W 0 (fun _ => true) true 3 v1 d1 p1)
    (k2 : Value.okWide Try.prog W .any base 3 v2) (h2 : DataW.Trod enc Try.prog W 0 (fun _ => true) true 3 v2 d2 p2)
    : Calls Try.prog 3 #[v0, v1, v2] W fun e W' => e = .returned (.bool true) ∧ Below W.heap.size W W' := by
  obtain ⟨l, hl, rfl, hw⟩ := open_arr (encA := bvs) (ok := fun a => a.length = 16) Try.underlying24 (sz := 16) (by kernel_rfl) (by kernel_rfl) dec_bm k0 h0
  obtain ⟨a, b, rfl⟩ := two_list hl
  obtain ⟨f, rfl, -, -, -⟩ := open_int Try.underlying3 k1 h1
  obtain ⟨n, rfl, -, -, w2⟩ := open_int Try.underlying3 k2 h2
  have := bitmapTells_core (hw a (by simp)) (hw b (by simp)) f n (wf64 w2).2 W
  rw [show [a, b].flatMap bvs = bvs a ++ bvs b from by simp]
  exact this
end Go.Proofs.Ythbaogjamenndaa
