/- The statements of layer 1: DiskNone. -/
import Derived.Test.YthbaogjamenndaaDskStep
namespace Go.Proofs.Ythbaogjamenndaa
set_option linter.unusedSimpArgs false
set_option linter.unusedVariables false
open Go.RowKit Go.ChangeShapes Go.WideShapes Go.Sort

set_option maxHeartbeats 4000000 in
set_option maxRecDepth 100000 in
theorem read_nil (i : Int) (w : World) : Calls Try.prog 32 #[.pointer none, .int .i64 i] w (Ret w (.tuple #[.agg (bvs zblk).toArray, .int .i64 1])) := by
  obtain ⟨W, hW⟩ : ∃ W, w.alloc (.cells (bvs zblk).toArray 55) = W := ⟨_, rfl⟩
  have hBW : Below w.heap.size w W := by rw [← hW]; exact (Below.refl _ _).alloc (Nat.le_refl _) _
  have bb : W.heap[w.heap.size]? = some (.cells (bvs zblk).toArray 55) := by rw [← hW]; exact heap_alloc_new _ _
  have hX2 := setRow_heap W w.heap.size (bvs zblk).toArray (bvs zblk).toArray 55 _ bb
  have hBX := bSetRow hBW (Nat.le_refl _) (bvs zblk).toArray
  have hld := run_loadVar_row (P := Try.prog) (W.setRow w.heap.size (bvs zblk).toArray) _ _ 55 _ _ _ hX2 Try.underlying55 rfl (bk_info zblk_len)
  have hhas := fun W => dhas_nil W i
  have HX := Lib.hid hBX
  clear hX2 hBX
  go_enter Try.func32, Try.ntmps32
  go_wp2_with (first | (refine wpList_new rfl blkZ rfl ?_) | fail)
  refine (hhas _).mono ?_
  rintro e w' ⟨rfl, rfl⟩
  go_wp2_with (first
    | (refine wpList_built rfl 55 #[] rfl (cs := (bvs zblk).toArray) (by simp only [List.map_toArray, List.map_nil]; exact built_blk0) ?_)
    | (refine wpList_store_row rfl 55 (.tmp 4) (.tmp 13) rfl _ (bvs zblk).toArray rfl rfl _ (bvs zblk).toArray bb (bk_info zblk_len) rfl (all_oneCell_toArray (oneCell_bvs _)) ?_)
    | fail)
  refine bodyPost_ret (by simp [results, Try.results32, Act.put, asAddr, Result.andThen, hld]; try rfl) rfl ?_
  exact Ret.mk rfl HX.out
theorem write_nil (i : Int) (b : Blk) (w : World) : Calls Try.prog 29 #[.pointer none, .int .i64 i, .agg (bvs b).toArray] w (Ret w (.int .i64 1)) := by
  have hhas := fun W => dhas_nil W i
  go_enter Try.func29, Try.ntmps29
  go_wp2_with fail
  refine (hhas _).mono ?_
  rintro e w' ⟨rfl, rfl⟩
  go_wp2_with fail
  go_ret
  exact Ret.mk rfl (by repeat (first | (with_reducible exact Below.refl _ _) | (with_reducible refine bDrewN ?_ _) | (with_reducible refine Below.drew ?_) | (with_reducible refine Below.alloc ?_ ?_ _) | (with_reducible refine Below.setCell ?_ ?_ _) | (with_reducible assumption) | go_size))

set_option maxHeartbeats 4000000 in
set_option maxRecDepth 100000 in
theorem diskNone_core {w : World} {x : Stp} (hx : x.Ok w) : Calls Try.prog 10 #[.agg x.enc.toArray] w (Ret w (.bool true)) := by
  obtain ⟨kind, i, v, A, keep, c⟩ := x
  obtain ⟨hi, hs, hkc, hcm⟩ := hx
  simp only at hi hs hkc hcm
  simp only [Stp.enc, bv]
  have hzv := fun W => run_zero blkZ W
  generalize hW : (w.alloc (.cells #[.int .i64 kind, .int .i64 i, .int .u8 (v.toNat : Int), .slice A keep.length c] 52)).alloc (.cells #[.int .i64 kind, .int .i64 i, .int .u8 (v.toNat : Int), .slice A keep.length c] 52) = W
  have hB : Below w.heap.size w W := by rw [← hW]; exact ((Below.refl _ _).alloc (Nat.le_refl _) _).alloc (by simp) _
  have h0 : W.heap[w.heap.size]? = some (.cells #[.int .i64 kind, .int .i64 i, .int .u8 (v.toNat : Int), .slice A keep.length c] 52) := by rw [← hW]; exact (Below.heap_alloc _ _ _ (by simp)).trans (heap_alloc_new _ _)
  have h1 : W.heap[w.heap.size + 1]? = some (.cells #[.int .i64 kind, .int .i64 i, .int .u8 (v.toNat : Int), .slice A keep.length c] 52) := by rw [← hW]; exact heap_alloc_two _ _ _
  have hfair := fair_any (w := W) (l := [⟨kind, i, v, A, keep, c⟩]) (Sl.new (n := 1) h1 rfl) (Nat.le_refl 1) (by simp [maxLen])
  have hz := hB.size
  obtain ⟨t, ht⟩ : ∃ t, fairL [⟨kind, i, v, A, keep, c⟩] = t := ⟨_, rfl⟩
  rw [ht] at hfair
  simp only [List.length_singleton] at hfair
  clear ht h1
  go_enter Try.func10, Try.ntmps10
  go_wp2_with fail
  refine hfair.mono ?_
  rintro e w' ⟨rfl, rfl⟩
  cases t
  · go_wp2_with fail
    refine (wakes01_any _).mono ?_
    rintro e W2 ⟨rfl, hb2⟩
    go_wp2
    go_ret
    exact Ret.mk rfl (hB.trans (hb2.mono hz))
  · have q0 := blk_cell h0 (k := 1) rfl
    have q2 := blk_cell h0 (k := 2) rfl
    have q3 := blk_cell h0 (k := 3) rfl
    go_wp2_with fail
    refine (fuse_nil _ _).mono ?_
    rintro e W2 ⟨rfl, rfl⟩
    go_wp2_with fail
    refine (crash_nil _ _ _).mono ?_
    rintro e W3 ⟨rfl, hb3⟩
    have hlt := (Array.getElem?_eq_some_iff.1 h0).1
    have h03 := bBlk hb3 hlt h0
    have hB3 := hB.trans (hb3.mono hz)
    clear q0 q2 q3 h0 hb3
    have q0 := blk_cell h03 (k := 1) rfl
    go_wp2_with fail
    refine (read_nil _ _).mono ?_
    rintro e W4 ⟨rfl, hb4⟩
    have hlt3 := (Array.getElem?_eq_some_iff.1 h03).1
    have h04 := bBlk hb4 hlt3 h03
    have hB4 := hB3.trans (hb4.mono hB3.size)
    clear q0 h03 hb4
    obtain ⟨W5, hW5⟩ : ∃ W5, World.setRow (W4.alloc (.cells (bvs zblk).toArray 55)) W4.heap.size (bvs zblk).toArray = W5 := ⟨_, rfl⟩
    have hb5 : Below W4.heap.size W4 W5 := by rw [← hW5]; exact bSetRow ((Below.refl _ _).alloc (Nat.le_refl _) _) (Nat.le_refl _) _
    have hB5 := hB4.trans (hb5.mono hB4.size)
    have g5 : W5.heap[W4.heap.size]? = some (.cells (bvs zblk).toArray 55) := by rw [← hW5]; exact setRow_heap _ _ _ _ _ _ (heap_alloc_new _ _)
    have h05 := bBlk hb5 (Array.getElem?_eq_some_iff.1 h04).1 h04
    go_upto_region 7 with (first
      | (refine wpList_new rfl blkZ rfl ?_)
      | (refine wpList_store_row rfl 55 (.tmp 4) (.tmp 26) rfl _ (bvs zblk).toArray rfl rfl _ (bvs zblk).toArray (heap_alloc_new _ _) (bk_info zblk_len) rfl (all_oneCell_toArray (oneCell_bvs _)) ?_)
      | fail)
    have hq7 := range_regrown g5
    have hca : ∀ x : Regrown, (grow (redrawn W5 x.d) x.os).cell? ⟨w.heap.size, 1, none⟩ = some (.int .i64 i) := fun x => cell_regrown (blk_cell h05 rfl) _ _
    have hcb : ∀ x : Regrown, (grow (redrawn W5 x.d) x.os).cell? ⟨w.heap.size, 2, none⟩ = some (.int .u8 (v.toNat : Int)) := fun x => cell_regrown (blk_cell h05 rfl) _ _
    have hsame := bk_same zblk_len
    have hfill : ∀ W, Calls Try.prog 30 #[.int .u8 (v.toNat : Int)] W (Ret W (.agg (bvs (fillB v)).toArray)) := fun W => fill_any v W
    clear g5 h05 h04 hb5 hW5 hfair hW
    refine wp_region_quiet_below (by kernel_rfl) (by kernel_rfl) ?_
    refine wpQuiet_load_row (by simp [Region.wanted, yielded, Act.put]) 55 _ rfl _ _ rfl (bvs zblk) hq7 _ Try.underlying55 rfl (bk_len zblk_len) ?_
    iterate 12 (quiet_step (fail))
    quiet_step ((go_at_call 30; exact Calls.regrown_of (hfill _)))
    quiet_step ((go_at_call 29; exact Calls.regrown_of (write_nil _ _ _)))
    iterate 4 (quiet_step (fail))
    quiet_step ((go_at_call 34; exact Calls.regrown_of (ret_of (sync_nil _))))
    iterate 4 (quiet_step (fail))
    quiet_step ((go_at_call 39; exact Calls.regrown_of (ret_of (loose_nil _))))
    iterate 4 (quiet_step (fail))
    quiet_step ((go_at_call 40; exact Calls.regrown_of (ret_of (len_nil _))))
    iterate 4 (quiet_step (fail))
    quiet_step ((go_at_call 41; exact Calls.regrown_of (ret_of (down_nil _))))
    iterate 4 (quiet_step (fail))
    quiet_step ((go_at_call 42; exact Calls.regrown_of (ret_of (done_nil _))))
    iterate 3 (quiet_step (fail))
    quiet_step ((go_at_call 26; exact Calls.regrown_of (wakes01_any _)))
    iterate 2 (quiet_step (fail))
    refine wpQuiet_nil ?_
    intro _ hw'
    obtain ⟨pq, rfl⟩ := hw'
    have hBV := hB5.trans ((below_regrown W5 pq.d pq.os).mono hB5.size)
    generalize grow (redrawn W5 pq.d) pq.os = V at *
    go_wp2_with fail
    go_ret
    exact Ret.mk rfl hBV

set_option maxRecDepth 100000 in
theorem diskNone_walk {H : Type} {enc : TypeId × Value → H} {W : World} {base : Nat} {v0 : Value} {d0 : DataW H} {p0 : List MemPlace}
    (k0 : Value.okWide Try.prog W .any base 52 v0) (h0 : DataW.Trod enc Try.prog W 0 (fun _ => true) true 52 v0 d0 p0)
    : Calls Try.prog 10 #[v0] W fun e W' => e = .returned (.bool true) ∧ Below W.heap.size W W' := by
  have hv : ∃ cs, v0 = .agg cs := by
    simp only [Value.okWide, Try.underlying52] at k0
    obtain ⟨cs, h1, _⟩ := k0
    exact ⟨cs, h1⟩
  obtain ⟨⟨cs⟩, rfl⟩ := hv
  obtain ⟨fuel, hf⟩ := h0
  obtain ⟨x, hx, hok⟩ := dec_step fuel _ _ hf
  simp only [Value.cells] at hx
  subst hx
  exact diskNone_core hok
end Go.Proofs.Ythbaogjamenndaa
