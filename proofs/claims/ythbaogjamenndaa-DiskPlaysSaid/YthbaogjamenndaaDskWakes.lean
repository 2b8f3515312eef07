/- The wakes of layer 1. -/
import Derived.Test.YthbaogjamenndaaDskCrash
import Derived.Lib.QuietBelow
import Derived.BigQuiet
import Derived.Deep.CutRange
import Derived.Stop.BytesEq
namespace Go.Proofs.Ythbaogjamenndaa
set_option linter.unusedSimpArgs false
set_option linter.unusedVariables false
open Go.RowKit Go.Sort

theorem DStep.below {w w' : World} {base p B : Nat} {v v' : Value} {s : DS} (h : Dk w base p B v s) (st : DStep p B v v' w w') : Below base w w' :=
  st.but.below (by have := h.lt; have := h.bp; omega) (fun k hk => (h.own_ge k hk).1)
theorem DStep.of_but {w w' : World} {p B : Nat} {v : Value} (h : But w.heap.size (· = p) w w') : DStep p B v v w w' := ⟨h.widen (fun k e => .inl e), fun k e => .inl e⟩
theorem u8_sizeOf' (w : World) : (sizeOf 5).run Try.prog w = .ok 1 w := by
  have h : (Try.prog.info? 5).map (·.size) = some 1 := by kernel_rfl
  cases hq : Try.prog.info? 5 with
  | none => rw [hq] at h; cases h
  | some i =>
    rw [hq] at h
    have hs : i.size = 1 := by simpa using h
    simp [sizeOf, typeInfo, hq, hs]
/-- two blocks: alike? -/
theorem bk_eq {x y : Blk} (hx : x.length = 128) (hy : y.length = 128) (w : World) : (Op.equalIn 10000 55 (.agg (bvs x).toArray) (.agg (bvs y).toArray)).run Try.prog w = .ok (x == y) w :=
  run_equalIn_bytes (P := Try.prog) w 9998 55 5 128 Try.underlying55 Try.underlying5 u8_sizeOf' x y hx hy
theorem bk_same {x : Blk} (hx : x.length = 128) (w : World) : (Op.equalIn 10000 55 (.agg (bvs x).toArray) (.agg (bvs x).toArray)).run Try.prog w = .ok true w := by
  have := bk_eq hx hx w
  rwa [beq_self_eq_true] at this
theorem wpQuiet_load_row {P : Program} {ops : Array Oper} {C : World → Prop} {Q : Act → Prop} {a : Act} {o : Oper} {rest : List Oper} (hw : Region.wanted o (yielded ops a.tmps) = true) (ty : TypeId) (x : Operand) (ho : o.op = .load ty x)
    (b off : Nat) (hx : a.eval x = .pointer (some ⟨b, off, none⟩)) (cs : List Value) (hC : ∀ w', C w' → w'.rangeAt b off cs) (d : TypeDesc)
    (hu : P.underlying ty = some d) (hd : d.isRow = true) (hi : (P.info? ty).map (·.size) = some cs.length)
    (h : wpQuiet P ops C Q rest (a.put o.dst (.agg cs.toArray))) : wpQuiet P ops C Q (o :: rest) a := by
  unfold wpQuiet
  rw [if_pos hw]
  refine ⟨_, fun w' hw' => ?_, h⟩
  unfold Oper.quietAt execOp
  simp only [ho, hx, Instr.loadAt, Instr.sureAddr, Sem.run_bind, Sem.run_pure, Result.andThen_ok, run_loadVar_mid w' b off ty cs d (hC w' hw') hu hd hi]
  exact ⟨rfl, rfl⟩
theorem range_regrown {W : World} {b : Nat} {M : List UInt8} {t : TypeId} (h : W.heap[b]? = some (.cells (bvs M).toArray t)) : ∀ w', (∃ p : Regrown, w' = grow (redrawn W p.d) p.os) → w'.rangeAt b 0 (bvs M) := by
  rintro w' ⟨p, rfl⟩ j v hj
  exact cell_regrown (by rw [Nat.zero_add]; exact blk_cell h (by simpa using hj)) _ _

theorem ret_of {P : Program} {f : FuncId} {args : Array Value} {w : World} {v : Value} (h : Calls P f args w fun e w' => e = .returned v ∧ w = w') : Calls P f args w (Ret w v) :=
  h.mono fun _ _ ⟨a, b⟩ => ⟨a, b ▸ Below.refl _ _⟩

/-! ### the words of the test -/
def k1 : DS := (DS.new 16).write 1 (fillB 7)
def k2 : DS := k1.write 2 (fillB 8)
def k3 : DS := (k2.fuseTo 0).sync
def k4 : DS := k3.crash [1, 1] 1
theorem k_e1 : (DS.new 16).writeE 1 = 0 := by decide +kernel
theorem k_e2 : k1.writeE 2 = 0 := by decide +kernel
theorem k_e3 : k2.writeE 16 = 1 ∧ k2.inB 16 = false := by decide +kernel
theorem k_e3' (b : Blk) : k2.write 16 b = k2 := by unfold DS.write; rw [k_e3.2]; rfl
theorem k_lo : k2.lo.length = 2 := by decide +kernel
theorem k_e4 : (k2.fuseTo 0).passE = 12 := by decide +kernel
theorem k_e5 : k3.readE 1 = 12 := by decide +kernel
theorem k_dn : k3.down = true := by decide +kernel
theorem k_e6 : k4.readE 1 = 0 ∧ k4.readE 2 = 0 := by decide +kernel
theorem k_r1 : k4.read 1 = fillB 7 := by decide +kernel
theorem k_r2 : (k4.read 2)[63]? = some 8 ∧ (k4.read 2)[64]? = some 0 := by decide +kernel
theorem k_end : k4.lo.length = 0 ∧ k4.bl.length = 16 ∧ k4.done = 2 ∧ k4.down = false := by decide +kernel
theorem k_bd : k1.done < 4611686018427387904 ∧ k1.lo.length < 1000000 ∧ k2.done < 4611686018427387904 ∧ k2.lo.length < 1000000 ∧ (k2.fuseTo 0).done < 4611686018427387904 ∧ (k2.fuseTo 0).lo.length < 1000000 ∧ k3.lo.length < 1000000 ∧ k4.lo.length < 1000000 := by decide +kernel

set_option maxHeartbeats 8000000 in
set_option maxRecDepth 100000 in
theorem wakes01_any (w : World) : Calls Try.prog 26 #[] w (Ret w (.bool true)) := by
  have f7 : ∀ W, Calls Try.prog 30 #[.int .u8 7] W (Ret W (.agg (bvs (fillB 7)).toArray)) := fun W => fill_any 7 W
  have f8 : ∀ W, Calls Try.prog 30 #[.int .u8 8] W (Ret W (.agg (bvs (fillB 8)).toArray)) := fun W => fill_any 8 W
  have hn : ∀ W, _ := fun W => new_any 16 (by omega) (by omega) W
  have hbd := k_bd
  go_enter Try.func26, Try.ntmps26
  go_wp2_with fail
  refine (hn _).mono ?_
  rintro e W0 ⟨rfl, hk0, hb0⟩
  have hB0 : Below w.heap.size w W0 := hb0
  have hbase : w.heap.size ≤ W0.heap.size := hb0.size
  unfold dp
  clear hn hb0
  go_wp2_with fail
  refine (f7 _).mono ?_
  rintro e W1 ⟨rfl, hb1⟩
  have hk1 := hk0.below hb1
  have hB1 := hB0.trans (hb1.mono hbase)
  go_wp2_with fail
  refine (write_any hk1 (by decide) (by decide) 1 (fillB_len 7)).mono ?_
  rintro e W2 ⟨rfl, v2, hk2, hs2⟩
  have hB2 := hB1.trans (hs2.below hk1)
  rw [k_e1]
  change Dk W2 _ _ _ _ k1 at hk2
  clear hk0 hk1 hs2 hb1
  go_wp2_with fail
  refine (f8 _).mono ?_
  rintro e W3 ⟨rfl, hb3⟩
  have hk3 := hk2.below hb3
  have hB3 := hB2.trans (hb3.mono hB2.size)
  go_wp2_with fail
  refine (write_any hk3 hbd.1 hbd.2.1 2 (fillB_len 8)).mono ?_
  rintro e W4 ⟨rfl, v4, hk4, hs4⟩
  have hB4 := hB3.trans (hs4.below hk3)
  rw [k_e2]
  change Dk W4 _ _ _ _ k2 at hk4
  clear hk2 hk3 hs4 hb3
  go_wp2_with fail
  refine (f8 _).mono ?_
  rintro e W5 ⟨rfl, hb5⟩
  have hk5 := hk4.below hb5
  have hB5 := hB4.trans (hb5.mono hB4.size)
  go_wp2_with fail
  refine (write_any hk5 hbd.2.2.1 hbd.2.2.2.1 16 (fillB_len 8)).mono ?_
  rintro e W6 ⟨rfl, v6, hk6, hs6⟩
  have hB6 := hB5.trans (hs6.below hk5)
  rw [k_e3.1]
  rw [k_e3'] at hk6
  clear hk4 hk5 hs6 hb5
  go_wp2_with fail
  refine (loose_any hk6).mono ?_
  rintro e W7 ⟨rfl, rfl⟩
  rw [k_lo]
  go_wp2_with fail
  refine (fuse_any hk6 0 (by omega)).mono ?_
  rintro e W8 ⟨rfl, hk8, hs8⟩
  have hB8 := hB6.trans ((DStep.of_but hs8).below hk6)
  clear hk6 hs8
  go_wp2_with fail
  refine (sync_any hk8 hbd.2.2.2.2.1 hbd.2.2.2.2.2.1).mono ?_
  rintro e W9 ⟨rfl, v9, hk9, hs9⟩
  have hB9 := hB8.trans (hs9.below hk8)
  rw [k_e4]
  change Dk W9 _ _ _ _ k3 at hk9
  clear hk8 hs9
  go_wp2_with fail
  refine (read_any hk9 hbd.2.2.2.2.2.2.1 1).mono ?_
  rintro e W10 ⟨rfl, hb10⟩
  have hk10 := hk9.below hb10
  have hB10 := hB9.trans (hb10.mono hB9.size)
  have hr10 := hk9.ok.read 1
  rw [k_e5]
  unfold bkv
  generalize k3.read 1 = R1 at *
  clear hk9 hb10
  obtain ⟨W11, hW11⟩ : ∃ W11, World.setRow (W10.alloc (.cells (bvs zblk).toArray 55)) W10.heap.size (bvs R1).toArray = W11 := ⟨_, rfl⟩
  have hb11 : Below W10.heap.size W10 W11 := by rw [← hW11]; exact bSetRow ((Below.refl _ _).alloc (Nat.le_refl _) _) (Nat.le_refl _) _
  have hk11 := hk10.below hb11
  have hB11 := hB10.trans (hb11.mono hB10.size)
  go_wp2_with (first
    | (refine wpList_new rfl blkZ rfl ?_)
    | (refine wpList_store_row rfl 55 (.tmp 4) (.tmp 51) rfl _ (bvs R1).toArray rfl rfl _ (bvs zblk).toArray (heap_alloc_new _ _) (bk_info hr10) (blk_sizes zblk_len hr10) (all_oneCell_toArray (oneCell_bvs _)) ?_)
    | fail)
  refine (down_any hk11).mono ?_
  rintro e W12 ⟨rfl, rfl⟩
  rw [k_dn]
  clear hW11 hk10 hb11
  go_wp2_with fail
  generalize hV : World.alloc _ _ = W13
  have hb13 : Below W11.heap.size W11 W13 := by rw [← hV]; exact (Below.refl _ _).alloc (Nat.le_refl _) _
  have g13 : W13.heap[W11.heap.size]? = some (.cells (bvs [1, 1]).toArray 5) := by rw [← hV]; exact heap_alloc_new _ _
  have hk13 := hk11.below hb13
  have hB13 := hB11.trans (hb13.mono hB11.size)
  refine (crash_any hk13 hbd.2.2.2.2.2.2.1 [1, 1] (some ⟨W11.heap.size, 0, none⟩) 2 (by decide) (Sl.new (n := 2) g13 rfl) (fun b o _ e hx => by cases e; have := hk11.own_ge _ hx; omega) 1).mono ?_
  rintro e W14 ⟨rfl, v14, hk14, hs14⟩
  have hB14 := hB13.trans (hs14.below hk13)
  change Dk W14 _ _ _ _ k4 at hk14
  clear hk11 hk13 hs14 hV g13 hb13
  go_wp2_with fail
  refine (read_any hk14 hbd.2.2.2.2.2.2.2 1).mono ?_
  rintro e W15 ⟨rfl, hb15⟩
  have hk15 := hk14.below hb15
  have hB15 := hB14.trans (hb15.mono hB14.size)
  rw [k_e6.1, k_r1]
  have hr15 := fillB_len 7
  unfold bkv
  clear hk14 hb15
  obtain ⟨W16, hW16⟩ : ∃ W16, World.setRow (W15.alloc (.cells (bvs zblk).toArray 55)) W15.heap.size (bvs (fillB 7)).toArray = W16 := ⟨_, rfl⟩
  have hb16 : Below W15.heap.size W15 W16 := by rw [← hW16]; exact bSetRow ((Below.refl _ _).alloc (Nat.le_refl _) _) (Nat.le_refl _) _
  have hk16 := hk15.below hb16
  have hB16 := hB15.trans (hb16.mono hB15.size)
  have g16 : W16.heap[W15.heap.size]? = some (.cells (bvs (fillB 7)).toArray 55) := by rw [← hW16]; exact setRow_heap _ _ _ _ _ _ (heap_alloc_new _ _)
  go_wp2_with (first
    | (refine wpList_new rfl blkZ rfl ?_)
    | (refine wpList_store_row rfl 55 (.tmp 7) (.tmp 61) rfl _ (bvs (fillB 7)).toArray rfl rfl _ (bvs zblk).toArray (heap_alloc_new _ _) (bk_info hr15) (blk_sizes zblk_len hr15) (all_oneCell_toArray (oneCell_bvs _)) ?_)
    | fail)
  refine (read_any hk16 hbd.2.2.2.2.2.2.2 2).mono ?_
  rintro e W17 ⟨rfl, hb17⟩
  have hk17 := hk16.below hb17
  have hB17 := hB16.trans (hb17.mono hB16.size)
  have g17 := bBlk hb17 (Array.getElem?_eq_some_iff.1 g16).1 g16
  have hr17 := hk16.ok.read 2
  have hr2 := k_r2
  rw [k_e6.2]
  unfold bkv
  generalize k4.read 2 = R2 at *
  clear hk16 hb17 hk15 hb16 hW16
  obtain ⟨W18, hW18⟩ : ∃ W18, World.setRow (W17.alloc (.cells (bvs zblk).toArray 55)) W17.heap.size (bvs R2).toArray = W18 := ⟨_, rfl⟩
  have hb18 : Below W17.heap.size W17 W18 := by rw [← hW18]; exact bSetRow ((Below.refl _ _).alloc (Nat.le_refl _) _) (Nat.le_refl _) _
  have hk18 := hk17.below hb18
  have hB18 := hB17.trans (hb18.mono hB17.size)
  have g18 : W18.heap[W17.heap.size]? = some (.cells (bvs R2).toArray 55) := by rw [← hW18]; exact setRow_heap _ _ _ _ _ _ (heap_alloc_new _ _)
  have g18b := bBlk hb18 (Array.getElem?_eq_some_iff.1 g17).1 g17
  go_upto_region 11 with (first
    | (refine wpList_new rfl blkZ rfl ?_)
    | (refine wpList_store_row rfl 55 (.tmp 9) (.tmp 66) rfl _ (bvs R2).toArray rfl rfl _ (bvs zblk).toArray (heap_alloc_new _ _) (bk_info hr17) (blk_sizes zblk_len hr17) (all_oneCell_toArray (oneCell_bvs _)) ?_)
    | fail)
  clear hk17 hb18 hW18 g17 g16
  have hq7 := range_regrown g18b
  have ha : W18.cell? ⟨W17.heap.size, 63, none⟩ = some (.int .u8 8) := blk_cell g18 (by unfold bvs; rw [List.getElem?_toArray, List.getElem?_map, hr2.1]; rfl)
  have hb : W18.cell? ⟨W17.heap.size, 64, none⟩ = some (.int .u8 0) := blk_cell g18 (by unfold bvs; rw [List.getElem?_toArray, List.getElem?_map, hr2.2]; rfl)
  have hca : ∀ x : Regrown, (grow (redrawn W18 x.d) x.os).cell? ⟨W17.heap.size, 63, none⟩ = some (.int .u8 8) := fun x => cell_regrown ha _ _
  have hcb : ∀ x : Regrown, (grow (redrawn W18 x.d) x.os).cell? ⟨W17.heap.size, 64, none⟩ = some (.int .u8 0) := fun x => cell_regrown hb _ _
  have hsame := bk_same hr15
  have hend := k_end
  clear hr2 hr17 g18 g18b hr10 hbd
  refine wp_region_quiet_below (by kernel_rfl) (by kernel_rfl) ?_
  iterate 11 (quiet_step (fail))
  quiet_step ((go_at_call 41; exact Calls.regrown_of (ret_of (down_any (hk18.below (below_regrown _ _ _))))))
  rw [hend.2.2.2]
  iterate 11 (quiet_step (fail))
  refine wpQuiet_load_row (by simp [Region.wanted, yielded, Act.put]) 55 _ rfl _ _ rfl (bvs (fillB 7)) hq7 _ Try.underlying55 rfl (bk_len hr15) ?_
  quiet_step ((go_at_call 30; exact Calls.regrown_of (f7 _)))
  iterate 14 (quiet_step (fail))
  quiet_step ((go_at_call 39; exact Calls.regrown_of (ret_of (loose_any (hk18.below (below_regrown _ _ _))))))
  rw [hend.1]
  iterate 4 (quiet_step (fail))
  quiet_step ((go_at_call 40; exact Calls.regrown_of (ret_of (len_any (hk18.below (below_regrown _ _ _))))))
  rw [hend.2.1]
  iterate 4 (quiet_step (fail))
  quiet_step ((go_at_call 42; exact Calls.regrown_of (ret_of (done_any (hk18.below (below_regrown _ _ _))))))
  rw [hend.2.2.1]
  iterate 3 (quiet_step (fail))
  refine wpQuiet_nil ?_
  intro _ hw'
  obtain ⟨pq, rfl⟩ := hw'
  have hBV := hB18.trans ((below_regrown W18 pq.d pq.os).mono hB18.size)
  generalize grow (redrawn W18 pq.d) pq.os = V at *
  go_wp2_with fail
  go_ret
  exact Ret.mk rfl hBV
end Go.Proofs.Ythbaogjamenndaa
