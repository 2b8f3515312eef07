/- The walks over super.Good and its reference. -/
import Derived.Test.YtnkdbkgihemjnaaSupPlain
import Derived.Test.YtnkdbkgihemjnaaDskWakes
import Derived.Lib.QuietBelow
namespace Go.Proofs.Ytnkdbkgihemjnaa
set_option linter.unusedSimpArgs false
set_option linter.unusedVariables false
open Go.RowKit Go.ChangeShapes Go.WideShapes Go.Sort

/-- a superblock's cells in a block of memory, from an offset on -/
structure SpAt (w : World) (g : Nat) (s : SP) : Prop where
  blk : w.heap[g]? = some (.cells s.cells.toArray 38)
  c0 : w.cell? ⟨g, 0, none⟩ = some (.int .u32 (s.gen : Int))
  c1 : w.cell? ⟨g, 1, none⟩ = some (.int .i64 s.blocks)
  c2 : w.cell? ⟨g, 2, none⟩ = some (.int .i64 s.root)
  log : w.rangeAt g 3 (bvs s.log)
  used : w.rangeAt g 35 (bvs s.used)
theorem SpAt.of {w : World} {g : Nat} {s : SP} (hs : s.Ok) (h : w.heap[g]? = some (.cells s.cells.toArray 38)) : SpAt w g s := by
  have hr : w.rangeAt g 0 s.cells := fun j u hj => by rw [Nat.zero_add]; exact blk_cell h (by simpa using hj)
  have h3 := range_cut hr 3 32
  have h35 := range_cut hr 35 16
  have e3 : (s.cells.drop 3).take 32 = bvs s.log := by
    show ((bvs s.log ++ bvs s.used).take 32) = _
    rw [← hs.log, ← bvs_len, List.take_left]
  have e35 : (s.cells.drop 35).take 16 = bvs s.used := by
    show ((bvs s.log ++ bvs s.used).drop 32).take 16 = _
    rw [show (bvs s.log ++ bvs s.used).drop 32 = bvs s.used from by rw [← hs.log, ← bvs_len, List.drop_left], ← hs.used, ← bvs_len, List.take_length]
  rw [e3] at h3
  rw [e35] at h35
  exact ⟨h, by have := hr 0 _ rfl; exact this, by have := hr 1 _ rfl; exact this, by have := hr 2 _ rfl; exact this, by simpa using h3, by simpa using h35⟩
theorem bm_len {m : List UInt8} (hm : m.length = 16) : (Try.prog.info? 36).map (·.size) = some (bvs m).length := by rw [bvs_len, hm]; exact bm_size
theorem range_reg {W : World} {b o : Nat} {cs : List Value} (h : W.rangeAt b o cs) : ∀ w', (∃ p : Regrown, w' = grow (redrawn W p.d) p.os) → w'.rangeAt b o cs := by
  rintro w' ⟨p, rfl⟩ j v hj
  exact cell_regrown (h j v hj) _ _

/-- an operation whose guard says no -/
theorem wpQuiet_skip {P : Program} {ops : Array Oper} {C : World → Prop} {Q : Act → Prop} {a : Act} {o : Oper} {rest : List Oper} (hw : Region.wanted o (yielded ops a.tmps) = false) (h : wpQuiet P ops C Q rest (a.put o.dst undef)) : wpQuiet P ops C Q (o :: rest) a := by
  unfold wpQuiet; rw [if_neg (by simp [hw])]; exact h
theorem nums_cases {s : SP} (h : ¬ s.nums = true) : ((s.gen : Int) < 1) ∨ (¬ (s.gen : Int) < 1 ∧ (1073741823 : Int) < s.gen) ∨ (¬ (s.gen : Int) < 1 ∧ ¬ (1073741823 : Int) < s.gen ∧ s.blocks < 16) ∨ (¬ (s.gen : Int) < 1 ∧ ¬ (1073741823 : Int) < s.gen ∧ ¬ s.blocks < 16 ∧ 128 < s.blocks) ∨
    (¬ (s.gen : Int) < 1 ∧ ¬ (1073741823 : Int) < s.gen ∧ ¬ s.blocks < 16 ∧ ¬ 128 < s.blocks ∧ ¬ s.root = 0 ∧ s.root < 2) ∨ (¬ (s.gen : Int) < 1 ∧ ¬ (1073741823 : Int) < s.gen ∧ ¬ s.blocks < 16 ∧ ¬ 128 < s.blocks ∧ ¬ s.root = 0 ∧ ¬ s.root < 2 ∧ s.blocks ≤ s.root) := by
  simp only [SP.nums, decide_eq_true_eq] at h
  omega

set_option maxHeartbeats 8000000 in
set_option maxRecDepth 100000 in
theorem good_any {s : SP} (hs : s.Ok) (w : World) : Calls Try.prog 49 #[spv s] w (Ret w (.bool s.good)) := by
  unfold spv
  obtain ⟨cs, hcs⟩ : ∃ cs, s.cells.toArray = cs := ⟨_, rfl⟩
  rw [hcs]
  go_enter Try.func49, Try.ntmps49
  go_upto_region 1 with (fail)
  generalize hW : World.alloc w _ = W
  have hat : SpAt W w.heap.size s := by rw [← hW]; exact .of hs (by rw [hcs]; exact heap_alloc_new _ _)
  have hB : Below w.heap.size w W := by rw [← hW]; exact (Below.refl _ _).alloc (Nat.le_refl _) _
  clear hW hcs
  obtain ⟨-, c0, c1, c2, -, hu⟩ := hat
  have hm := hs.used
  clear hs
  by_cases hn : s.nums = true
  · have hG : s.good = s.bits := by unfold SP.good; rw [hn]; rfl
    have HN : Hid (s.nums = true) := Lib.hid hn
    simp only [SP.nums, decide_eq_true_eq] at hn
    obtain ⟨n1, n2, n3, n4, n5⟩ := hn
    have H0 := fun W => has_any hm 0 W
    have H1 := fun W => has_any hm 1 W
    have HC := fun W => count_any hm 128 W
    have HD := fun W => count_any hm s.blocks W
    rw [show (min (128 : Int) 128).toNat = 128 from rfl] at HC
    unfold bmv at H0 H1 HC HD
    have HG : Hid (s.good = (hasB s.used 0 && hasB s.used 1 && decide (cntTo s.used 128 = cntTo s.used (min s.blocks 128).toNat))) := Lib.hid hG
    clear hG
    have hc1 := fun d os => cell_regrown c1 d os
    have hq := range_reg hu
    have g1 : ¬ (s.gen : Int) < 1 := by omega
    have g2 : ¬ (1073741823 : Int) < s.gen := by omega
    have g3 : ¬ s.blocks < 16 := by omega
    have g4 : ¬ 128 < s.blocks := by omega
    obtain ⟨t0, ht0⟩ : ∃ t, hasB s.used 0 = t := ⟨_, rfl⟩
    obtain ⟨t1, ht1⟩ : ∃ t, hasB s.used 1 = t := ⟨_, rfl⟩
    obtain ⟨nc, hnc⟩ : ∃ t, cntTo s.used 128 = t := ⟨_, rfl⟩
    obtain ⟨nd, hnd⟩ : ∃ t, cntTo s.used (min s.blocks 128).toNat = t := ⟨_, rfl⟩
    have he : ((nc : Int) == (nd : Int)) = decide (nc = nd) := by rw [Bool.eq_iff_iff]; simp [Int.ofNat_inj]
    rw [ht0] at H0 HG
    rw [ht1] at H1 HG
    rw [hnc] at HC HG
    rw [hnd] at HD HG
    clear ht0 ht1 hnc hnd hu
    by_cases r0 : s.root = 0
    · clear n1 n2 n3 n4 n5
      cases t0
      · go_upto_region 5 with (fail)
        refine wp_region_quiet_below (by kernel_rfl) (by kernel_rfl) ?_
        iterate 1 (quiet_step (fail))
        refine wpQuiet_load_row (by simp [Region.wanted, yielded, Act.put]) 36 _ rfl _ _ rfl (bvs s.used) hq _ Try.underlying36 rfl (bm_len hm) ?_
        quiet_step ((go_at_call 73; exact Calls.regrown_of (H0 _)))
        iterate 1 (quiet_step (fail))
        iterate 3 (unfold wpQuiet; rw [if_neg (by simp [Region.wanted, yielded, Act.put])]; (try simp only [Act.put, List.setIfInBounds_toArray, List.set_cons_zero, List.set_cons_succ]))
        iterate 2 (quiet_step (fail))
        iterate 9 (unfold wpQuiet; rw [if_neg (by simp [Region.wanted, yielded, Act.put])]; (try simp only [Act.put, List.setIfInBounds_toArray, List.set_cons_zero, List.set_cons_succ]))
        iterate 2 (quiet_step (fail))
        refine wpQuiet_nil ?_
        intro _ hw'
        obtain ⟨pq, rfl⟩ := hw'
        go_wp2
        go_ret
        exact Ret.mk (by rw [HG.out]; first | rfl | (show Value.bool _ = _; rw [he]; rfl) | (simp [he])) (hB.trans ((below_regrown W pq.d pq.os).mono hB.size))
      · cases t1
        · go_upto_region 5 with (fail)
          refine wp_region_quiet_below (by kernel_rfl) (by kernel_rfl) ?_
          iterate 1 (quiet_step (fail))
          refine wpQuiet_load_row (by simp [Region.wanted, yielded, Act.put]) 36 _ rfl _ _ rfl (bvs s.used) hq _ Try.underlying36 rfl (bm_len hm) ?_
          quiet_step ((go_at_call 73; exact Calls.regrown_of (H0 _)))
          iterate 2 (quiet_step (fail))
          refine wpQuiet_load_row (by simp [Region.wanted, yielded, Act.put]) 36 _ rfl _ _ rfl (bvs s.used) hq _ Try.underlying36 rfl (bm_len hm) ?_
          quiet_step ((go_at_call 73; exact Calls.regrown_of (H1 _)))
          iterate 2 (quiet_step (fail))
          iterate 9 (unfold wpQuiet; rw [if_neg (by simp [Region.wanted, yielded, Act.put])]; (try simp only [Act.put, List.setIfInBounds_toArray, List.set_cons_zero, List.set_cons_succ]))
          iterate 2 (quiet_step (fail))
          refine wpQuiet_nil ?_
          intro _ hw'
          obtain ⟨pq, rfl⟩ := hw'
          go_wp2
          go_ret
          exact Ret.mk (by rw [HG.out]; first | rfl | (show Value.bool _ = _; rw [he]; rfl) | (simp [he])) (hB.trans ((below_regrown W pq.d pq.os).mono hB.size))
        · go_upto_region 5 with (fail)
          refine wp_region_quiet_below (by kernel_rfl) (by kernel_rfl) ?_
          iterate 1 (quiet_step (fail))
          refine wpQuiet_load_row (by simp [Region.wanted, yielded, Act.put]) 36 _ rfl _ _ rfl (bvs s.used) hq _ Try.underlying36 rfl (bm_len hm) ?_
          quiet_step ((go_at_call 73; exact Calls.regrown_of (H0 _)))
          iterate 2 (quiet_step (fail))
          refine wpQuiet_load_row (by simp [Region.wanted, yielded, Act.put]) 36 _ rfl _ _ rfl (bvs s.used) hq _ Try.underlying36 rfl (bm_len hm) ?_
          quiet_step ((go_at_call 73; exact Calls.regrown_of (H1 _)))
          iterate 3 (quiet_step (fail))
          refine wpQuiet_load_row (by simp [Region.wanted, yielded, Act.put]) 36 _ rfl _ _ rfl (bvs s.used) hq _ Try.underlying36 rfl (bm_len hm) ?_
          quiet_step ((go_at_call 74; exact Calls.regrown_of (HC _)))
          iterate 1 (quiet_step (fail))
          refine wpQuiet_load_row (by simp [Region.wanted, yielded, Act.put]) 36 _ rfl _ _ rfl (bvs s.used) hq _ Try.underlying36 rfl (bm_len hm) ?_
          iterate 2 (quiet_step (fail))
          quiet_step ((go_at_call 74; exact Calls.regrown_of (HD _)))
          iterate 3 (quiet_step (fail))
          refine wpQuiet_nil ?_
          intro _ hw'
          obtain ⟨pq, rfl⟩ := hw'
          go_wp2
          go_ret
          exact Ret.mk (by rw [HG.out]; first | rfl | (show Value.bool _ = _; rw [he]; rfl) | (simp [he])) (hB.trans ((below_regrown W pq.d pq.os).mono hB.size))
    · have r1 : ¬ s.root < 2 := by omega
      have r2 : ¬ s.blocks ≤ s.root := by omega
      clear n1 n2 n3 n4 n5
      cases t0
      · go_upto_region 5 with (fail)
        refine wp_region_quiet_below (by kernel_rfl) (by kernel_rfl) ?_
        iterate 1 (quiet_step (fail))
        refine wpQuiet_load_row (by simp [Region.wanted, yielded, Act.put]) 36 _ rfl _ _ rfl (bvs s.used) hq _ Try.underlying36 rfl (bm_len hm) ?_
        quiet_step ((go_at_call 73; exact Calls.regrown_of (H0 _)))
        iterate 1 (quiet_step (fail))
        iterate 3 (unfold wpQuiet; rw [if_neg (by simp [Region.wanted, yielded, Act.put])]; (try simp only [Act.put, List.setIfInBounds_toArray, List.set_cons_zero, List.set_cons_succ]))
        iterate 2 (quiet_step (fail))
        iterate 9 (unfold wpQuiet; rw [if_neg (by simp [Region.wanted, yielded, Act.put])]; (try simp only [Act.put, List.setIfInBounds_toArray, List.set_cons_zero, List.set_cons_succ]))
        iterate 2 (quiet_step (fail))
        refine wpQuiet_nil ?_
        intro _ hw'
        obtain ⟨pq, rfl⟩ := hw'
        go_wp2
        go_ret
        exact Ret.mk (by rw [HG.out]; first | rfl | (show Value.bool _ = _; rw [he]; rfl) | (simp [he])) (hB.trans ((below_regrown W pq.d pq.os).mono hB.size))
      · cases t1
        · go_upto_region 5 with (fail)
          refine wp_region_quiet_below (by kernel_rfl) (by kernel_rfl) ?_
          iterate 1 (quiet_step (fail))
          refine wpQuiet_load_row (by simp [Region.wanted, yielded, Act.put]) 36 _ rfl _ _ rfl (bvs s.used) hq _ Try.underlying36 rfl (bm_len hm) ?_
          quiet_step ((go_at_call 73; exact Calls.regrown_of (H0 _)))
          iterate 2 (quiet_step (fail))
          refine wpQuiet_load_row (by simp [Region.wanted, yielded, Act.put]) 36 _ rfl _ _ rfl (bvs s.used) hq _ Try.underlying36 rfl (bm_len hm) ?_
          quiet_step ((go_at_call 73; exact Calls.regrown_of (H1 _)))
          iterate 2 (quiet_step (fail))
          iterate 9 (unfold wpQuiet; rw [if_neg (by simp [Region.wanted, yielded, Act.put])]; (try simp only [Act.put, List.setIfInBounds_toArray, List.set_cons_zero, List.set_cons_succ]))
          iterate 2 (quiet_step (fail))
          refine wpQuiet_nil ?_
          intro _ hw'
          obtain ⟨pq, rfl⟩ := hw'
          go_wp2
          go_ret
          exact Ret.mk (by rw [HG.out]; first | rfl | (show Value.bool _ = _; rw [he]; rfl) | (simp [he])) (hB.trans ((below_regrown W pq.d pq.os).mono hB.size))
        · go_upto_region 5 with (fail)
          refine wp_region_quiet_below (by kernel_rfl) (by kernel_rfl) ?_
          iterate 1 (quiet_step (fail))
          refine wpQuiet_load_row (by simp [Region.wanted, yielded, Act.put]) 36 _ rfl _ _ rfl (bvs s.used) hq _ Try.underlying36 rfl (bm_len hm) ?_
          quiet_step ((go_at_call 73; exact Calls.regrown_of (H0 _)))
          iterate 2 (quiet_step (fail))
          refine wpQuiet_load_row (by simp [Region.wanted, yielded, Act.put]) 36 _ rfl _ _ rfl (bvs s.used) hq _ Try.underlying36 rfl (bm_len hm) ?_
          quiet_step ((go_at_call 73; exact Calls.regrown_of (H1 _)))
          iterate 3 (quiet_step (fail))
          refine wpQuiet_load_row (by simp [Region.wanted, yielded, Act.put]) 36 _ rfl _ _ rfl (bvs s.used) hq _ Try.underlying36 rfl (bm_len hm) ?_
          quiet_step ((go_at_call 74; exact Calls.regrown_of (HC _)))
          iterate 1 (quiet_step (fail))
          refine wpQuiet_load_row (by simp [Region.wanted, yielded, Act.put]) 36 _ rfl _ _ rfl (bvs s.used) hq _ Try.underlying36 rfl (bm_len hm) ?_
          iterate 2 (quiet_step (fail))
          quiet_step ((go_at_call 74; exact Calls.regrown_of (HD _)))
          iterate 3 (quiet_step (fail))
          refine wpQuiet_nil ?_
          intro _ hw'
          obtain ⟨pq, rfl⟩ := hw'
          go_wp2
          go_ret
          exact Ret.mk (by rw [HG.out]; first | rfl | (show Value.bool _ = _; rw [he]; rfl) | (simp [he])) (hB.trans ((below_regrown W pq.d pq.os).mono hB.size))
  · have hF : s.good = false := by unfold SP.good; rw [show s.nums = false from by simpa using hn]; rfl
    have HF := Lib.hid hF
    clear hF hm hu
    rcases nums_cases hn with g | ⟨g1, g⟩ | ⟨g1, g2, g⟩ | ⟨g1, g2, g3, g⟩ | ⟨g1, g2, g3, g4, g5, g⟩ | ⟨g1, g2, g3, g4, g5, g6, g⟩ <;>
    · clear hn
      go_wp2
      go_ret
      exact Ret.mk (by rw [HF.out]; rfl) hB
end Go.Proofs.Ytnkdbkgihemjnaa
