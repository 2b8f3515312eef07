/- The walk over the reference's Good. -/
import Derived.Test.YtnkdbkgihemjnaaSupGood
namespace Go.Proofs.Ytnkdbkgihemjnaa
set_option linter.unusedSimpArgs false
set_option linter.unusedVariables false
open Go.RowKit Go.ChangeShapes Go.WideShapes Go.Sort

theorem nums_cases' {s : SP} (h : ¬ s.nums = true) : ((s.gen : Int) < 1) ∨ (¬ (s.gen : Int) < 1 ∧ (1073741824 : Int) ≤ s.gen) ∨ (¬ (s.gen : Int) < 1 ∧ ¬ (1073741824 : Int) ≤ s.gen ∧ s.blocks < 16) ∨ (¬ (s.gen : Int) < 1 ∧ ¬ (1073741824 : Int) ≤ s.gen ∧ ¬ s.blocks < 16 ∧ 128 < s.blocks) ∨
    (¬ (s.gen : Int) < 1 ∧ ¬ (1073741824 : Int) ≤ s.gen ∧ ¬ s.blocks < 16 ∧ ¬ 128 < s.blocks ∧ ¬ s.root = 0 ∧ s.root < 2) ∨ (¬ (s.gen : Int) < 1 ∧ ¬ (1073741824 : Int) ≤ s.gen ∧ ¬ s.blocks < 16 ∧ ¬ 128 < s.blocks ∧ ¬ s.root = 0 ∧ ¬ s.root < 2 ∧ s.blocks ≤ s.root) := by
  simp only [SP.nums, decide_eq_true_eq] at h
  omega

set_option maxHeartbeats 8000000 in
set_option maxRecDepth 100000 in
theorem rgood_any {s : SP} (hs : s.Ok) (w : World) : Calls Try.prog 50 #[spv s] w (Ret w (.bool s.good)) := by
  unfold spv
  obtain ⟨cs, hcs⟩ : ∃ cs, s.cells.toArray = cs := ⟨_, rfl⟩
  rw [hcs]
  go_enter Try.func50, Try.ntmps50
  go_upto_region 1 with (fail)
  generalize hW : World.alloc w _ = W
  have hat : SpAt W w.heap.size s := by rw [← hW]; exact .of hs (by rw [hcs]; exact heap_alloc_new _ _)
  have hB : Below w.heap.size w W := by rw [← hW]; exact (Below.refl _ _).alloc (Nat.le_refl _) _
  clear hW hcs
  have hgW := (Array.getElem?_eq_some_iff.1 hat.blk).1
  obtain ⟨-, c0, c1, c2, -, hu⟩ := hat
  have hm := hs.used
  clear hs
  by_cases hn : s.nums = true
  · have hG : s.good = s.bits := by unfold SP.good; rw [hn]; rfl
    have HN : Hid (s.nums = true) := Lib.hid hn
    simp only [SP.nums, decide_eq_true_eq] at hn
    obtain ⟨n1, n2, n3, n4, n5⟩ := hn
    have H0 := fun W => rhasb_any hm 0 W
    have H1 := fun W => rhasb_any hm 1 W
    have HC := fun W => rcount_any hm 128 W
    have HD := fun W => rcount_any hm s.blocks W
    rw [show (min (128 : Int) 128).toNat = 128 from rfl] at HC
    unfold bmv at H0 H1 HC HD
    have HG : Hid (s.good = (hasB s.used 0 && hasB s.used 1 && decide (cntTo s.used 128 = cntTo s.used (min s.blocks 128).toNat))) := Lib.hid hG
    clear hG
    have g1 : ¬ (s.gen : Int) < 1 := by omega
    have g2 : ¬ (1073741824 : Int) ≤ s.gen := by omega
    have g3 : ¬ s.blocks < 16 := by omega
    have g4 : ¬ 128 < s.blocks := by omega
    obtain ⟨t0, ht0⟩ : ∃ t, hasB s.used 0 = t := ⟨_, rfl⟩
    obtain ⟨t1, ht1⟩ : ∃ t, hasB s.used 1 = t := ⟨_, rfl⟩
    obtain ⟨nc, hnc⟩ : ∃ t, cntTo s.used 128 = t := ⟨_, rfl⟩
    obtain ⟨nd, hnd⟩ : ∃ t, cntTo s.used (min s.blocks 128).toNat = t := ⟨_, rfl⟩
    have he : ((nc : Int) == (nd : Int)) = decide (nc = nd) := by rw [Bool.eq_iff_iff]; simp [Int.ofNat_inj]
    rw [ht0] at H0 HG
    rw [ht1] at H1 HG
    rw [hnc] at HC HG
    rw [hnd] at HD HG
    clear ht0 ht1 hnc hnd
    by_cases r0 : s.root = 0
    · clear n1 n2 n3 n4 n5
      refine wp_region_lit ?_
      iterate 83 (first | go_guarded | go_step)
      refine wp_load_mid 36 (.tmp 39) rfl w.heap.size 35 rfl (bvs s.used) _ hu Try.underlying36 rfl (bm_len hm) ?_
      go_wp2_with fail
      refine (H0 _).mono ?_
      rintro e W1 ⟨rfl, hb1⟩
      have hz1 := hb1.size
      have hB1 := hB.trans (hb1.mono hB.size)
      have c1' : W1.cell? ⟨w.heap.size, 1, none⟩ = some (.int .i64 s.blocks) := (World.cell?_of_block (a := ⟨w.heap.size, 1, none⟩) (hb1.block w.heap.size hgW)).trans c1
      have hu1 := bRange hb1 hgW hu
      clear hb1 c0 c1 c2 hu hB
      cases t0
      · go_wp2
        go_ret
        exact Ret.mk (by rw [HG.out]; rfl) hB1
      · dsimp only
        iterate 14 (first | go_guarded | go_step)
        refine wp_load_mid 36 (.tmp 45) rfl w.heap.size 35 rfl (bvs s.used) _ hu1 Try.underlying36 rfl (bm_len hm) ?_
        go_wp2_with fail
        refine (H1 _).mono ?_
        rintro e W2 ⟨rfl, hb2⟩
        have hB2 := hB1.trans (hb2.mono hB1.size)
        have c1 : W2.cell? ⟨w.heap.size, 1, none⟩ = some (.int .i64 s.blocks) := (World.cell?_of_block (a := ⟨w.heap.size, 1, none⟩) (hb2.block w.heap.size (by omega))).trans c1'
        have hu := bRange hb2 (by omega) hu1
        have hc1 := fun d os => cell_regrown c1 d os
        have hq := range_reg hu
        clear hb2 c1' hu1 hB1 hz1 hgW
        cases t1
        · go_wp2
          go_ret
          exact Ret.mk (by rw [HG.out]; rfl) hB2
        · go_upto_region 3 with (fail)
          refine wp_region_quiet_below (by kernel_rfl) (by kernel_rfl) ?_
          iterate 1 (quiet_step (fail))
          refine wpQuiet_load_row (by simp [Region.wanted, yielded, Act.put]) 36 _ rfl _ _ rfl (bvs s.used) hq _ Try.underlying36 rfl (bm_len hm) ?_
          quiet_step ((go_at_call 76; exact Calls.regrown_of (HC _)))
          iterate 1 (quiet_step (fail))
          refine wpQuiet_load_row (by simp [Region.wanted, yielded, Act.put]) 36 _ rfl _ _ rfl (bvs s.used) hq _ Try.underlying36 rfl (bm_len hm) ?_
          iterate 2 (quiet_step (fail))
          quiet_step ((go_at_call 76; exact Calls.regrown_of (HD _)))
          iterate 2 (quiet_step (fail))
          refine wpQuiet_nil ?_
          intro _ hw'
          obtain ⟨pq, rfl⟩ := hw'
          go_wp2
          go_ret
          exact Ret.mk (by rw [HG.out]; first | rfl | (show Value.bool _ = _; rw [he]; rfl) | (simp [he])) (hB2.trans ((below_regrown W2 pq.d pq.os).mono hB2.size))
    · have r1 : ¬ s.root < 2 := by omega
      have r2 : ¬ s.blocks ≤ s.root := by omega
      clear n1 n2 n3 n4 n5
      refine wp_region_lit ?_
      iterate 107 (first | go_guarded | go_step)
      refine wp_load_mid 36 (.tmp 39) rfl w.heap.size 35 rfl (bvs s.used) _ hu Try.underlying36 rfl (bm_len hm) ?_
      go_wp2_with fail
      refine (H0 _).mono ?_
      rintro e W1 ⟨rfl, hb1⟩
      have hz1 := hb1.size
      have hB1 := hB.trans (hb1.mono hB.size)
      have c1' : W1.cell? ⟨w.heap.size, 1, none⟩ = some (.int .i64 s.blocks) := (World.cell?_of_block (a := ⟨w.heap.size, 1, none⟩) (hb1.block w.heap.size hgW)).trans c1
      have hu1 := bRange hb1 hgW hu
      clear hb1 c0 c1 c2 hu hB
      cases t0
      · go_wp2
        go_ret
        exact Ret.mk (by rw [HG.out]; rfl) hB1
      · dsimp only
        iterate 14 (first | go_guarded | go_step)
        refine wp_load_mid 36 (.tmp 45) rfl w.heap.size 35 rfl (bvs s.used) _ hu1 Try.underlying36 rfl (bm_len hm) ?_
        go_wp2_with fail
        refine (H1 _).mono ?_
        rintro e W2 ⟨rfl, hb2⟩
        have hB2 := hB1.trans (hb2.mono hB1.size)
        have c1 : W2.cell? ⟨w.heap.size, 1, none⟩ = some (.int .i64 s.blocks) := (World.cell?_of_block (a := ⟨w.heap.size, 1, none⟩) (hb2.block w.heap.size (by omega))).trans c1'
        have hu := bRange hb2 (by omega) hu1
        have hc1 := fun d os => cell_regrown c1 d os
        have hq := range_reg hu
        clear hb2 c1' hu1 hB1 hz1 hgW
        cases t1
        · go_wp2
          go_ret
          exact Ret.mk (by rw [HG.out]; rfl) hB2
        · go_upto_region 3 with (fail)
          refine wp_region_quiet_below (by kernel_rfl) (by kernel_rfl) ?_
          iterate 1 (quiet_step (fail))
          refine wpQuiet_load_row (by simp [Region.wanted, yielded, Act.put]) 36 _ rfl _ _ rfl (bvs s.used) hq _ Try.underlying36 rfl (bm_len hm) ?_
          quiet_step ((go_at_call 76; exact Calls.regrown_of (HC _)))
          iterate 1 (quiet_step (fail))
          refine wpQuiet_load_row (by simp [Region.wanted, yielded, Act.put]) 36 _ rfl _ _ rfl (bvs s.used) hq _ Try.underlying36 rfl (bm_len hm) ?_
          iterate 2 (quiet_step (fail))
          quiet_step ((go_at_call 76; exact Calls.regrown_of (HD _)))
          iterate 2 (quiet_step (fail))
          refine wpQuiet_nil ?_
          intro _ hw'
          obtain ⟨pq, rfl⟩ := hw'
          go_wp2
          go_ret
          exact Ret.mk (by rw [HG.out]; first | rfl | (show Value.bool _ = _; rw [he]; rfl) | (simp [he])) (hB2.trans ((below_regrown W2 pq.d pq.os).mono hB2.size))
  · have hF : s.good = false := by unfold SP.good; rw [show s.nums = false from by simpa using hn]; rfl
    have HF := Lib.hid hF
    clear hF hm hu hgW
    rcases nums_cases' hn with g | ⟨g1, g⟩ | ⟨g1, g2, g⟩ | ⟨g1, g2, g3, g⟩ | ⟨g1, g2, g3, g4, g5, g⟩ | ⟨g1, g2, g3, g4, g5, g6, g⟩ <;>
    · clear hn
      go_wp2
      go_ret
      exact Ret.mk (by rw [HF.out]; rfl) hB
end Go.Proofs.Ytnkdbkgihemjnaa
