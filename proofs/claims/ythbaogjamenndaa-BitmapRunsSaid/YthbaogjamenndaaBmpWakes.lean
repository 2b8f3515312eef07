/- A whole array read in a region that draws its order beside calls that make memory; the layer's own test. -/
import Derived.Test.YthbaogjamenndaaBmpRun
import Derived.Test.YthbaogjamenndaaBmpOr
import Derived.Test.YthbaogjamenndaaBmpCnt
import Derived.Lib.QuietBelow
import Derived.Deep.CutRange
import Derived.Stop.BytesEq
namespace Go.Proofs.Ythbaogjamenndaa
set_option linter.unusedSimpArgs false
set_option linter.unusedVariables false
open Go.RowKit Go.Sort

theorem wpQuiet_load_row {P : Program} {ops : Array Oper} {C : World → Prop} {Q : Act → Prop} {a : Act} {o : Oper} {rest : List Oper} (hw : Region.wanted o (yielded ops a.tmps) = true) (ty : TypeId) (x : Operand) (ho : o.op = .load ty x)
    (b off : Nat) (hx : a.eval x = .pointer (some ⟨b, off, none⟩)) (cs : List Value) (hC : ∀ w', C w' → w'.rangeAt b off cs) (d : TypeDesc)
    (hu : P.underlying ty = some d) (hd : d.isRow = true) (hi : (P.info? ty).map (·.size) = some cs.length)
    (h : wpQuiet P ops C Q rest (a.put o.dst (.agg cs.toArray))) : wpQuiet P ops C Q (o :: rest) a := by
  unfold wpQuiet
  rw [if_pos hw]
  refine ⟨_, fun w' hw' => ?_, h⟩
  unfold Oper.quietAt execOp
  simp only [ho, hx, Instr.loadAt, Instr.sureAddr, Sem.run_bind, Sem.run_pure, Result.andThen_ok, run_loadVar_mid w' b off ty cs d (hC w' hw') hu hd hi]
  exact ⟨rfl, rfl⟩
theorem range_regrown {W : World} {b : Nat} {M : List UInt8} {t : TypeId} (h : W.heap[b]? = some (.cells (bvs M).toArray t)) : ∀ w', (∃ p : Regrown, w' = grow (redrawn W p.d) p.os) → w'.rangeAt b 0 (bvs M) := by
  rintro w' ⟨p, rfl⟩ j v hj
  exact cell_regrown (by rw [Nat.zero_add]; exact blk_cell h (by simpa using hj)) _ _
theorem bm_len {m : List UInt8} (hm : m.length = 16) : (Try.prog.info? 23).map (·.size) = some (bvs m).length := by
  rw [bm_size, bvs_len, hm]

theorem u8_sizeOf (w : World) : (sizeOf 5).run Try.prog w = .ok 1 w := by
  have h : (Try.prog.info? 5).map (·.size) = some 1 := by kernel_rfl
  cases hq : Try.prog.info? 5 with
  | none => rw [hq] at h; cases h
  | some i =>
    have hs : i.size = 1 := by simpa [hq] using h
    simp [sizeOf, typeInfo, hq, hs]
theorem bm_same {x : List UInt8} (hx : x.length = 16) (w : World) : (Op.equalIn 10000 23 (.agg (bvs x).toArray) (.agg (bvs x).toArray)).run Try.prog w = .ok true w := by
  have := run_equalIn_bytes (P := Try.prog) w 9998 23 5 16 Try.underlying23 Try.underlying5 u8_sizeOf x x hx hx
  rw [beq_self_eq_true] at this
  exact this

def m0 : List UInt8 := [11, 0, 0, 0, 0, 0, 0, 0, 0, 0, 0, 0, 0, 0, 0, 0]
def n0 : List UInt8 := [59, 0, 0, 0, 0, 0, 0, 0, 0, 0, 0, 0, 0, 0, 0, 0]
theorem w_run1 : runR m0 16 2 = (4, 0) := by decide
theorem w_run2 : runR m0 5 2 = (0, 14) := by decide
theorem w_with1 : withR m0 4 2 = (n0, 0) := by decide
theorem w_with2 : withR m0 3 2 = (z16, 11) := by decide
theorem w_has3 : hasB m0 3 = true := by decide
theorem w_has2 : hasB m0 2 = false := by decide
theorem w_has128 : hasB m0 128 = true := by decide
theorem w_cnt : cntTo m0 (min 3 128 : Int).toNat = 2 := by decide
theorem w_or : orM m0 n0 = n0 := by decide

set_option maxHeartbeats 4000000 in
set_option maxRecDepth 100000 in
theorem wakes04_any (w : World) : Calls Try.prog 24 #[] w (Ret w (.bool true)) := by
  have r1 := fun W => run_any (m := m0) rfl 16 2 W
  have r2 := fun W => run_any (m := m0) rfl 5 2 W
  have r3 := fun W => with_any (m := m0) rfl 4 2 W
  have r4 := fun W => with_any (m := m0) rfl 3 2 W
  rw [w_run1] at r1
  rw [w_run2] at r2
  rw [w_with1] at r3
  rw [w_with2] at r4
  have R := Lib.hid (And.intro r1 (And.intro r2 (And.intro r3 r4)))
  clear r1 r2 r3 r4
  go_enter Try.func24, Try.ntmps24
  go_upto_region 2 with (fail)
  generalize hW : World.alloc w _ = W
  have bM : W.heap[w.heap.size]? = some (.cells (bvs m0).toArray 23) := by rw [← hW]; exact heap_alloc_new _ _
  have hB : Below w.heap.size w W := by rw [← hW]; exact (Below.refl _ _).alloc (Nat.le_refl _) _
  have hz : w.heap.size < W.heap.size := by rw [← hW]; simp
  clear hW
  go_wp2_with (refine wpList_load_row rfl 23 (.tmp 1) rfl _ rfl _ (bvs m0).toArray (0, 0) _ bM Try.underlying23 rfl (bm_info rfl) ?_)
  refine (R.out.1 _).mono ?_
  rintro e W1 ⟨rfl, hb1⟩
  have bM1 := bBlk hb1 hz bM
  have hB1 := hB.trans (hb1.mono (by omega))
  have hz1 := hb1.size
  clear hb1 bM
  go_wp2_with (refine wpList_load_row rfl 23 (.tmp 1) rfl _ rfl _ (bvs m0).toArray (0, 0) _ bM1 Try.underlying23 rfl (bm_info rfl) ?_)
  refine (R.out.2.1 _).mono ?_
  rintro e W2 ⟨rfl, hb2⟩
  have bM2 := bBlk hb2 (by omega) bM1
  have hB2 := hB1.trans (hb2.mono (by omega))
  have hz2 := hb2.size
  clear hb2 bM1
  go_wp2_with (refine wpList_load_row rfl 23 (.tmp 1) rfl _ rfl _ (bvs m0).toArray (0, 0) _ bM2 Try.underlying23 rfl (bm_info rfl) ?_)
  refine (R.out.2.2.1 _).mono ?_
  rintro e W3 ⟨rfl, hb3⟩
  have bM3 := bBlk hb3 (by omega) bM2
  have hB3 := hB2.trans (hb3.mono (by omega))
  have hz3 := hb3.size
  clear hb3 bM2
  go_upto_region 5 with (first | (refine wpList_store_row rfl 23 (.tmp 6) (.tmp 24) rfl _ (bvs n0).toArray rfl rfl _ (bvs z16).toArray (heap_alloc_new _ _) (bm_info rfl) rfl (all_oneCell_toArray (oneCell_bvs _)) ?_) | fail)
  generalize hX : World.setRow _ _ _ = X
  have bM4 : X.heap[w.heap.size]? = some (.cells (bvs m0).toArray 23) := by rw [← hX]; exact (setRow_other _ _ _ _ (by omega)).trans ((Below.heap_alloc _ _ _ (by omega)).trans bM3)
  have bN4 : X.heap[W3.heap.size]? = some (.cells (bvs n0).toArray 23) := by rw [← hX]; exact setRow_heap _ _ _ _ _ _ (heap_alloc_new _ _)
  have hB4 : RowKit.Below w.heap.size w X := by rw [← hX]; exact bSetRow (hB3.alloc (by omega) _) (by omega) _
  have hz4 : W3.heap.size < X.heap.size := by rw [← hX, setRow_size]; simp
  clear hX bM3
  go_wp2_with (refine wpList_load_row rfl 23 (.tmp 1) rfl _ rfl _ (bvs m0).toArray (0, 0) _ bM4 Try.underlying23 rfl (bm_info rfl) ?_)
  refine (R.out.2.2.2 _).mono ?_
  rintro e W5 ⟨rfl, hb5⟩
  have bM5 := bBlk hb5 (by omega) bM4
  have bN5 := bBlk hb5 hz4 bN4
  have hB5 := hB4.trans (hb5.mono (by omega))
  have hz5 := hb5.size
  clear hb5 bM4 bN4
  go_upto_region 6 with (first | (refine wpList_store_row rfl 23 (.tmp 8) (.tmp 29) rfl _ (bvs z16).toArray rfl rfl _ (bvs z16).toArray (heap_alloc_new _ _) (bm_info rfl) rfl (all_oneCell_toArray (oneCell_bvs _)) ?_) | fail)
  generalize hX : World.setRow _ _ _ = V
  have bM6 : V.heap[w.heap.size]? = some (.cells (bvs m0).toArray 23) := by rw [← hX]; exact (setRow_other _ _ _ _ (by omega)).trans ((Below.heap_alloc _ _ _ (by omega)).trans bM5)
  have bN6 : V.heap[W3.heap.size]? = some (.cells (bvs n0).toArray 23) := by rw [← hX]; exact (setRow_other _ _ _ _ (by omega)).trans ((Below.heap_alloc _ _ _ (by omega)).trans bN5)
  have hB6 : RowKit.Below w.heap.size w V := by rw [← hX]; exact bSetRow (hB5.alloc (by omega) _) (by omega) _
  clear hX bM5 bN5
  have hmR := range_regrown bM6
  have hnR := range_regrown bN6
  have c0 := cell_regrown (blk_cell bN6 (k := 0) (v := .int .u8 59) rfl)
  have s1 := fun W => has_any (m := m0) rfl 3 W
  have s2 := fun W => has_any (m := m0) rfl 2 W
  have s3 := fun W => has_any (m := m0) rfl 128 W
  have s4 := fun W => count_any (m := m0) rfl 3 W
  have s5 := fun W => or_any (a := m0) (b := n0) rfl rfl W
  rw [w_has3] at s1
  rw [w_has2] at s2
  rw [w_has128] at s3
  rw [w_cnt] at s4
  rw [w_or] at s5
  unfold bmv at s1 s2 s3 s4 s5
  have S := Lib.hid (And.intro s1 (And.intro s2 (And.intro s3 (And.intro s4 s5))))
  clear s1 s2 s3 s4 s5 R
  have hz6 := hB6.size
  have heq := bm_same (x := n0) rfl
  refine wp_region_quiet_below (by kernel_rfl) (by kernel_rfl) ?_
  iterate 24 (quiet_step (fail))
  refine wpQuiet_load_row (by simp [Region.wanted, yielded, Act.put]) 23 _ rfl _ _ rfl (bvs m0) hmR _ Try.underlying23 rfl (bm_len rfl) ?_
  quiet_step ((go_at_call 18; exact Calls.regrown_of (S.out.1 _)))
  iterate 2 (quiet_step (fail))
  refine wpQuiet_load_row (by simp [Region.wanted, yielded, Act.put]) 23 _ rfl _ _ rfl (bvs m0) hmR _ Try.underlying23 rfl (bm_len rfl) ?_
  quiet_step ((go_at_call 18; exact Calls.regrown_of (S.out.2.1 _)))
  iterate 3 (quiet_step (fail))
  refine wpQuiet_load_row (by simp [Region.wanted, yielded, Act.put]) 23 _ rfl _ _ rfl (bvs m0) hmR _ Try.underlying23 rfl (bm_len rfl) ?_
  quiet_step ((go_at_call 18; exact Calls.regrown_of (S.out.2.2.1 _)))
  iterate 2 (quiet_step (fail))
  refine wpQuiet_load_row (by simp [Region.wanted, yielded, Act.put]) 23 _ rfl _ _ rfl (bvs m0) hmR _ Try.underlying23 rfl (bm_len rfl) ?_
  quiet_step ((go_at_call 22; exact Calls.regrown_of (S.out.2.2.2.1 _)))
  iterate 3 (quiet_step (fail))
  refine wpQuiet_load_row (by simp [Region.wanted, yielded, Act.put]) 23 _ rfl _ _ rfl (bvs m0) hmR _ Try.underlying23 rfl (bm_len rfl) ?_
  refine wpQuiet_load_row (by simp [Region.wanted, yielded, Act.put]) 23 _ rfl _ _ rfl (bvs n0) hnR _ Try.underlying23 rfl (bm_len rfl) ?_
  quiet_step ((go_at_call 20; exact Calls.regrown_of (S.out.2.2.2.2 _)))
  refine wpQuiet_load_row (by simp [Region.wanted, yielded, Act.put]) 23 _ rfl _ _ rfl (bvs n0) hnR _ Try.underlying23 rfl (bm_len rfl) ?_
  iterate 3 (quiet_step (fail))
  refine wpQuiet_nil ?_
  intro _ hw'
  obtain ⟨pq, rfl⟩ := hw'
  go_wp2
  go_ret
  exact Ret.mk rfl (hB6.trans ((below_regrown V pq.d pq.os).mono hz6))
end Go.Proofs.Ythbaogjamenndaa
