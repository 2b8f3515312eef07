/- The walks over super.Write and its reference. -/
import Derived.Test.YtnkdbkgihemjnaaSupRDec
import Derived.Test.YtnkdbkgihemjnaaSupEq
import Derived.Test.YtnkdbkgihemjnaaDskRRead
import Derived.Test.YtnkdbkgihemjnaaDskRCrash
namespace Go.Proofs.Ytnkdbkgihemjnaa
set_option linter.unusedSimpArgs false
set_option linter.unusedVariables false
open Go.RowKit Go.ChangeShapes Go.WideShapes Go.Sort

theorem DStep.of_below {w w' : World} {p B : Nat} {v : Value} (h : Below w.heap.size w w') : DStep p B v v w w' := ⟨but_of h, fun k e => .inl e⟩
theorem sp_inB {d : DS} (h : d.Ok) (g : Nat) : d.inB ((g : Int) % 2) = true := by
  have := h.n16
  rw [DS.inB_iff]; omega
theorem putE_no {d : DS} {s : SP} (h : ¬ (s.good = true ∧ s.blocks = d.bl.length)) : d.putE s = 1 ∧ d.putS s = d := by
  unfold DS.putE DS.putS; rw [if_neg h, if_neg h]; exact ⟨rfl, rfl⟩
theorem putE_yes {d : DS} {s : SP} (h : s.good = true ∧ s.blocks = d.bl.length) (h0 : d.writeE ((s.gen : Int) % 2) = 0) : d.putE s = (d.write ((s.gen : Int) % 2) s.enc).passE ∧ d.putS s = (d.write ((s.gen : Int) % 2) s.enc).sync := by
  unfold DS.putE DS.putS
  rw [if_pos h, if_pos h, show ((s.gen % 2 : Nat) : Int) = (s.gen : Int) % 2 from by omega, if_pos h0, if_pos h0]; exact ⟨rfl, rfl⟩
theorem putE_cut {d : DS} {s : SP} (h : s.good = true ∧ s.blocks = d.bl.length) (h0 : ¬ d.writeE ((s.gen : Int) % 2) = 0) : d.putE s = d.writeE ((s.gen : Int) % 2) ∧ d.putS s = d.write ((s.gen : Int) % 2) s.enc := by
  unfold DS.putE DS.putS
  rw [if_pos h, if_pos h, show ((s.gen % 2 : Nat) : Int) = (s.gen : Int) % 2 from by omega, if_neg h0, if_neg h0]; exact ⟨rfl, rfl⟩
theorem write_done (d : DS) (i : Int) (b : Blk) : (d.write i b).done ≤ d.done + 1 ∧ (d.write i b).lo.length ≤ d.lo.length + 1 := by
  unfold DS.write
  split
  · split
    · exact ⟨by show d.done ≤ _; omega, by show d.lo.length ≤ _; omega⟩
    · exact ⟨Nat.le_refl _, by show (d.lo ++ _).length ≤ _; simp⟩
  · exact ⟨by omega, by omega⟩

set_option maxHeartbeats 8000000 in
set_option maxRecDepth 100000 in
theorem sput_any {w : World} {base p B : Nat} {v : Value} {d : DS} (h : Dk w base p B v d) (hd : d.done < 4611686018427380000) (hl : d.lo.length < 900000) {s : SP} (hs : s.Ok) :
    Calls Try.prog 19 #[dp p, spv s] w fun e w' => e = .returned (.int .i64 (d.putE s)) ∧ ∃ v', Dk w' base p B v' (d.putS s) ∧ DStep p B v v' w w' := by
  unfold spv
  have henc := fun W => encode_any hs W
  unfold spv at henc
  have hsl := sp_info hs
  obtain ⟨cs, hcs⟩ : ∃ cs, s.cells.toArray = cs := ⟨_, rfl⟩
  rw [hcs] at hsl henc
  rw [hcs]
  go_enter Try.func19, Try.ntmps19
  go_upto_region 1 with (fail)
  generalize hW : World.alloc w _ = W
  have hbW : W.heap[w.heap.size]? = some (.cells cs 38) := by rw [← hW]; exact heap_alloc_new _ _
  have hat : SpAt W w.heap.size s := .of hs (by rw [hcs]; exact hbW)
  have hB : Below w.heap.size w W := by rw [← hW]; exact (Below.refl _ _).alloc (Nat.le_refl _) _
  clear hW hcs
  obtain ⟨-, c0, c1, -, -, -⟩ := hat
  have hEl := hs.enc
  obtain ⟨E, hE⟩ : ∃ l, s.enc = l := ⟨_, rfl⟩
  have HE := Lib.hid hE
  rw [hE] at henc hEl
  clear hE
  unfold bkv at henc
  go_upto_region 2 with (first
    | (refine wpList_load_row rfl 38 (.tmp 3) rfl _ rfl _ cs (0, 0) _ hbW Try.underlying38 rfl hsl ?_)
    | (go_at_call 45; refine Calls.mono (henc _) ?_; rintro e W1 ⟨rfl, hb1⟩)
    | (refine wpList_new rfl blkZ rfl ?_)
    | (refine wpList_store_row rfl 40 (.tmp 5) (.tmp 11) rfl _ (bvs E).toArray rfl rfl _ (bvs zblk).toArray (heap_alloc_new _ _) (bk_info hEl) (blk_sizes zblk_len hEl) (all_oneCell_toArray (oneCell_bvs _)) ?_)
    | fail)
  obtain ⟨Y, hY⟩ : ∃ Y, (W1.alloc (.cells (bvs zblk).toArray 40)).setRow W1.heap.size (bvs E).toArray = Y := ⟨_, rfl⟩
  rw [hY]
  have y5 : Y.heap[W1.heap.size]? = some (.cells (bvs E).toArray 40) := by rw [← hY]; exact setRow_heap _ _ _ _ _ _ (heap_alloc_new _ _)
  have hbY : Below W1.heap.size W1 Y := by rw [← hY]; exact bSetRow ((Below.refl _ _).alloc (Nat.le_refl _) _) (Nat.le_refl _) _
  clear hY
  have hz1 := hb1.size
  have hbWY : Below W.heap.size W Y := hb1.trans (hbY.mono hz1)
  have hlt := (Array.getElem?_eq_some_iff.1 hbW).1
  have hBY := hB.trans (hbWY.mono hB.size)
  have hk := h.below hBY
  obtain ⟨hc, hf⟩ := bReads hbWY
  replace c0 := (hc w.heap.size 0 hlt).trans c0
  replace c1 := (hc w.heap.size 1 hlt).trans c1
  clear hc hf hbWY hb1 hbY henc hbW hsl hB h
  unfold dp
  by_cases hg : s.good = true ∧ s.blocks = d.bl.length
  · obtain ⟨hg1, hg2⟩ := hg
    have HE0 : s.encE = 0 := by unfold SP.encE; rw [hg1]; rfl
    rw [HE0]
    clear HE0
    have G := Lib.hid (And.intro hg1 hg2)
    have hlen := fun n => len_any (hk.below (bDrewN (Below.refl _ Y) n))
    have g1 : (s.blocks == (d.bl.length : Int)) = true := by simpa using hg2
    have g2 : decide (s.blocks = (d.bl.length : Int)) = true := by simpa using hg2
    have g3 : (s.blocks != (d.bl.length : Int)) = false := by simpa using hg2
    unfold dp at hlen
    rw [hg2] at c1
    clear hg1 hg2 g1 g2 g3
    go_quiet ((go_at_call 52; exact q_same (hlen _)))
    have hk2 := hk.below (bDrewN (Below.refl _ Y) nq)
    have hw := write_any hk2 (by omega) (by omega) ((s.gen : Int) % 2) hEl
    have hBY2 := bDrewN hBY nq
    have y52 : (Y.drewN nq).heap[W1.heap.size]? = some (.cells (bvs E).toArray 40) := y5
    have d0 : (Y.drewN nq).cell? ⟨w.heap.size, 0, none⟩ = some (.int .u32 (s.gen : Int)) := c0
    generalize Y.drewN nq = Z at *
    clear hlen hk y5 c0 c1 hBY
    unfold dp bkv at hw
    have Z2 := Lib.hid (And.intro hBY2 (write_done d ((s.gen : Int) % 2) E))
    obtain ⟨z, hz⟩ : ∃ z, d.writeE ((s.gen : Int) % 2) = z := ⟨_, rfl⟩
    have HZ := Lib.hid hz
    rw [hz] at hw
    clear hz hBY2
    go_upto_region 5 with (first
      | (refine wpList_load_row rfl 40 (.tmp 5) rfl _ rfl _ (bvs E).toArray (0, 0) _ y52 Try.underlying40 rfl (bk_info hEl) ?_)
      | (go_at_call 21; refine Calls.mono hw ?_; rintro e w3 ⟨rfl, v1, hk3, hs3⟩)
      | fail)
    have Z3 := Lib.hid (And.intro hs3 hk3)
    by_cases h0 : z = 0
    · subst h0
      have hsy := sync_any hk3 (by have := Z2.out; omega) (by have := Z2.out; omega)
      clear hs3 hk3 hw y52 d0
      unfold dp at hsy
      go_wp2_with fail
      refine Calls.mono hsy ?_
      rintro e w4 ⟨rfl, v2, hk4, hs4⟩
      go_wp2_with fail
      go_ret
      obtain ⟨n1, n2⟩ := putE_yes G.out HZ.out
      rw [n1, n2, HE.out]
      exact ⟨rfl, v2, hk4, (DStep.of_below Z2.out.1).trans (Z3.out.1.trans hs4)⟩
    · clear hs3 hk3 hw y52 d0
      go_wp2_with fail
      go_ret
      obtain ⟨n1, n2⟩ := putE_cut G.out (by rw [HZ.out]; exact h0)
      rw [n1, n2, HE.out, HZ.out]
      exact ⟨rfl, v1, Z3.out.2, (DStep.of_below Z2.out.1).trans Z3.out.1⟩
  · obtain ⟨n1, n2⟩ := putE_no hg
    have N := Lib.hid (And.intro n1 n2)
    clear n1 n2
    have HG : Hid (s.encE = if s.good then 0 else 11) := Lib.hid rfl
    cases hgg : s.good
    · rw [hgg] at HG
      have HE := HG.out
      simp only [Bool.false_eq_true, if_false] at HE
      rw [HE]
      clear hg hgg HE c0 c1
      go_quiet (fail)
      go_wp2_with fail
      go_ret
      rw [N.out.1, N.out.2]
      exact ⟨rfl, v, hk.below (bDrewN (Below.refl _ Y) nq), DStep.of_below (bDrewN hBY nq)⟩
    · rw [hgg] at HG
      have HE2 := HG.out
      simp only [if_true] at HE2
      rw [HE2]
      have hne : ¬ s.blocks = (d.bl.length : Int) := fun e => hg ⟨hgg, e⟩
      have hlen := fun n => len_any (hk.below (bDrewN (Below.refl _ Y) n))
      unfold dp at hlen
      have g1 : (s.blocks == (d.bl.length : Int)) = false := by simpa using hne
      have g2 : decide (s.blocks = (d.bl.length : Int)) = false := by simpa using hne
      clear hg hgg HE2
      go_quiet ((go_at_call 52; exact q_same (hlen _)))
      go_wp2_with fail
      go_ret
      rw [N.out.1, N.out.2]
      exact ⟨rfl, v, hk.below (bDrewN (Below.refl _ Y) nq), DStep.of_below (bDrewN hBY nq)⟩

set_option maxHeartbeats 8000000 in
set_option maxRecDepth 100000 in
theorem sput_nil {s : SP} (hs : s.Ok) (w : World) : Calls Try.prog 19 #[.pointer none, spv s] w (Ret w (.int .i64 1)) := by
  unfold spv
  have henc := fun W => encode_any hs W
  unfold spv at henc
  have hsl := sp_info hs
  obtain ⟨cs, hcs⟩ : ∃ cs, s.cells.toArray = cs := ⟨_, rfl⟩
  rw [hcs] at hsl henc
  rw [hcs]
  go_enter Try.func19, Try.ntmps19
  go_upto_region 1 with (fail)
  generalize hW : World.alloc w _ = W
  have hbW : W.heap[w.heap.size]? = some (.cells cs 38) := by rw [← hW]; exact heap_alloc_new _ _
  have hat : SpAt W w.heap.size s := .of hs (by rw [hcs]; exact hbW)
  have hB : Below w.heap.size w W := by rw [← hW]; exact (Below.refl _ _).alloc (Nat.le_refl _) _
  clear hW hcs
  obtain ⟨-, c0, c1, -, -, -⟩ := hat
  have hEl := hs.enc
  obtain ⟨E, hE⟩ : ∃ l, s.enc = l := ⟨_, rfl⟩
  rw [hE] at henc hEl
  clear hE
  unfold bkv at henc
  go_upto_region 2 with (first
    | (refine wpList_load_row rfl 38 (.tmp 3) rfl _ rfl _ cs (0, 0) _ hbW Try.underlying38 rfl hsl ?_)
    | (go_at_call 45; refine Calls.mono (henc _) ?_; rintro e W1 ⟨rfl, hb1⟩)
    | (refine wpList_new rfl blkZ rfl ?_)
    | (refine wpList_store_row rfl 40 (.tmp 5) (.tmp 11) rfl _ (bvs E).toArray rfl rfl _ (bvs zblk).toArray (heap_alloc_new _ _) (bk_info hEl) (blk_sizes zblk_len hEl) (all_oneCell_toArray (oneCell_bvs _)) ?_)
    | fail)
  obtain ⟨Y, hY⟩ : ∃ Y, (W1.alloc (.cells (bvs zblk).toArray 40)).setRow W1.heap.size (bvs E).toArray = Y := ⟨_, rfl⟩
  rw [hY]
  have hbY : Below W1.heap.size W1 Y := by rw [← hY]; exact bSetRow ((Below.refl _ _).alloc (Nat.le_refl _) _) (Nat.le_refl _) _
  clear hY
  have hz1 := hb1.size
  have hbWY : Below W.heap.size W Y := hb1.trans (hbY.mono hz1)
  have hlt := (Array.getElem?_eq_some_iff.1 hbW).1
  have hBY := hB.trans (hbWY.mono hB.size)
  obtain ⟨hc, hf⟩ := bReads hbWY
  replace c1 := (hc w.heap.size 1 hlt).trans c1
  clear hc hf hbWY hb1 hbY henc hbW hsl hB c0
  have HG : Hid (s.encE = if s.good then 0 else 11) := Lib.hid rfl
  cases hgg : s.good
  · rw [hgg] at HG
    have HE := HG.out
    simp only [Bool.false_eq_true, if_false] at HE
    rw [HE]
    clear hgg HE c1
    go_quiet (fail)
    go_wp2_with fail
    go_ret
    exact Ret.mk rfl (bDrewN hBY nq)
  · have hn := good_nums hgg
    rw [hgg] at HG
    have HE2 := HG.out
    simp only [if_true] at HE2
    rw [HE2]
    have hlen := fun n => len_nil (Y.drewN n)
    have g1 : (s.blocks == 0) = false := by simp; omega
    have g2 : decide (s.blocks = 0) = false := by simp; omega
    clear hgg HE2 hn
    go_quiet ((go_at_call 52; exact q_same (hlen _)))
    go_wp2_with fail
    go_ret
    exact Ret.mk rfl (bDrewN hBY nq)

set_option maxHeartbeats 8000000 in
set_option maxRecDepth 100000 in
theorem rput_nil {s : SP} (hs : s.Ok) (w : World) : Calls Try.prog 20 #[.pointer none, spv s] w (Ret w (.int .i64 1)) := by
  unfold spv
  obtain ⟨cs, hcs⟩ : ∃ cs, s.cells.toArray = cs := ⟨_, rfl⟩
  rw [hcs]
  go_enter Try.func20, Try.ntmps20
  go_upto_region 1 with (fail)
  generalize hW : World.alloc w _ = W
  have hB : Below w.heap.size w W := by rw [← hW]; exact (Below.refl _ _).alloc (Nat.le_refl _) _
  clear hW hcs
  go_quiet (fail)
  go_wp2_with fail
  go_ret
  exact Ret.mk rfl (bDrewN hB nq)

set_option maxHeartbeats 8000000 in
set_option maxRecDepth 100000 in
theorem rput_any {w : World} {base p B : Nat} {v : Value} {d : DS} {F : Int} (h : RDk w base p B v d F) (hd : d.done < 4611686018427380000) (hl : d.lo.length < 900000) {s : SP} (hs : s.Ok) :
    Calls Try.prog 20 #[dp p, spv s] w fun e w' => e = .returned (.int .i64 (d.putE s)) ∧ ∃ v' F', RDk w' base p B v' (d.putS s) F' ∧ DStep p B v v' w w' := by
  have henc := fun W => rencode_any hs W
  have hgood := fun W => rgood_any hs W
  unfold spv at henc hgood
  unfold spv
  have hsl := sp_info hs
  have hsl2 := sp_len hs
  obtain ⟨cl, hcl⟩ : ∃ cl, s.cells = cl := ⟨_, rfl⟩
  rw [hcl] at hsl henc hgood hsl2
  rw [hcl]
  go_enter Try.func20, Try.ntmps20
  go_upto_region 1 with (fail)
  generalize hW : World.alloc w _ = W
  have hbW : W.heap[w.heap.size]? = some (.cells cl.toArray 38) := by rw [← hW]; exact heap_alloc_new _ _
  have hat : SpAt W w.heap.size s := .of hs (by rw [hcl]; exact hbW)
  have hB : Below w.heap.size w W := by rw [← hW]; exact (Below.refl _ _).alloc (Nat.le_refl _) _
  clear hW hcl
  have hk := h.below hB
  obtain ⟨-, c0, c1, -, -, -⟩ := hat
  have hEl := hs.enc
  obtain ⟨E, hE⟩ : ∃ l, s.enc = l := ⟨_, rfl⟩
  have HE := Lib.hid hE
  rw [hE] at henc hEl
  clear hE
  unfold bkv at henc
  have r0 : W.rangeAt w.heap.size 0 cl := fun j v hj => by rw [Nat.zero_add]; exact blk_cell hbW (by simpa using hj)
  have hq := range_reg r0
  obtain ⟨hb0, q0, q1, q2, q3, q4, fr⟩ := hk.hds
  have hq0 := fun d os => cell_regrown q0 d os
  have hq1 := fun d os => cell_regrown c1 d os
  clear hb0 q1 q2 q3 q4 fr h
  unfold dp
  have HG : Hid (s.encE = if s.good then 0 else 11) := Lib.hid rfl
  cases hgg : s.good
  · obtain ⟨n1, n2⟩ := putE_no (d := d) (s := s) (fun e => by rw [hgg] at e; cases e.1)
    have N := Lib.hid (And.intro n1 n2)
    rw [hgg] at hgood
    clear n1 n2 hgg henc
    refine wp_region_quiet_below (by kernel_rfl) (by kernel_rfl) ?_
    iterate 3 (quiet_step (fail))
    refine wpQuiet_load_row (by simp [Region.wanted, yielded, Act.put]) 38 _ rfl _ _ rfl cl hq _ Try.underlying38 rfl hsl2 ?_
    quiet_step ((go_at_call 50; exact Calls.regrown_of (hgood _)))
    iterate 3 (quiet_step (fail))
    iterate 8 (unfold wpQuiet; rw [if_neg (by simp [Region.wanted, yielded, Act.put])]; (try simp only [Act.put, List.setIfInBounds_toArray, List.set_cons_zero, List.set_cons_succ]))
    iterate 1 (quiet_step (fail))
    refine wpQuiet_nil ?_
    intro _ hw'
    obtain ⟨pq, rfl⟩ := hw'
    go_wp2
    go_ret
    have hBR := hB.trans ((below_regrown W pq.d pq.os).mono hB.size)
    rw [N.out.1, N.out.2]
    exact ⟨rfl, v, F, hk.below (below_regrown W pq.d pq.os), DStep.of_below hBR⟩
  · rw [hgg] at hgood
    by_cases hne : s.blocks = (d.bl.length : Int)
    · have G := Lib.hid (And.intro hgg hne)
      have g1 : (s.blocks == (d.bl.length : Int)) = true := by simpa using hne
      have g2 : decide (s.blocks = (d.bl.length : Int)) = true := by simpa using hne
      rw [hne] at c1 hq1
      have HE0 : s.encE = 0 := by unfold SP.encE; rw [hgg]; rfl
      rw [HE0] at henc
      clear hgg g1 g2 HE0 hne
      refine wp_region_quiet_below (by kernel_rfl) (by kernel_rfl) ?_
      iterate 3 (quiet_step (fail))
      refine wpQuiet_load_row (by simp [Region.wanted, yielded, Act.put]) 38 _ rfl _ _ rfl cl hq _ Try.underlying38 rfl hsl2 ?_
      quiet_step ((go_at_call 50; exact Calls.regrown_of (hgood _)))
      iterate 3 (quiet_step (fail))
      iterate 8 (quiet_step (fail))
      iterate 1 (quiet_step (fail))
      refine wpQuiet_nil ?_
      intro _ hw'
      obtain ⟨pq, rfl⟩ := hw'
      have hbR := below_regrown W pq.d pq.os
      have hBR := hB.trans (hbR.mono hB.size)
      have hk2 := hk.below hbR
      have b2 := bBlk hbR (Array.getElem?_eq_some_iff.1 hbW).1 hbW
      have e0 := cell_regrown c0 pq.d pq.os
      have hz2 : w.heap.size < W.heap.size := (Array.getElem?_eq_some_iff.1 hbW).1
      have hzR := hbR.size
      generalize grow (redrawn W pq.d) pq.os = Z at *
      clear hq hq0 hq1 q0 c0 c1 r0 hbW hbR hgood hk hB
      go_upto_region 4 with (first
        | (refine wpList_load_row rfl 38 (.tmp 3) rfl _ rfl _ cl.toArray (0, 0) _ b2 Try.underlying38 rfl hsl ?_)
        | (go_at_call 46; refine Calls.mono (henc _) ?_; rintro e W1 ⟨rfl, hb1⟩)
        | (refine wpList_new rfl blkZ rfl ?_)
        | (refine wpList_store_row rfl 40 (.tmp 5) (.tmp 28) rfl _ (bvs E).toArray rfl rfl _ (bvs zblk).toArray (heap_alloc_new _ _) (bk_info hEl) (blk_sizes zblk_len hEl) (all_oneCell_toArray (oneCell_bvs _)) ?_)
        | fail)
      obtain ⟨Y, hY⟩ : ∃ Y, (W1.alloc (.cells (bvs zblk).toArray 40)).setRow W1.heap.size (bvs E).toArray = Y := ⟨_, rfl⟩
      rw [hY]
      have y5 : Y.heap[W1.heap.size]? = some (.cells (bvs E).toArray 40) := by rw [← hY]; exact setRow_heap _ _ _ _ _ _ (heap_alloc_new _ _)
      have hbY : Below W1.heap.size W1 Y := by rw [← hY]; exact bSetRow ((Below.refl _ _).alloc (Nat.le_refl _) _) (Nat.le_refl _) _
      clear hY
      have hz1 := hb1.size
      have hbZY : Below Z.heap.size Z Y := hb1.trans (hbY.mono hz1)
      have hBY := hBR.trans (hbZY.mono hBR.size)
      have hk3 := hk2.below hbZY
      have d0 : Y.cell? ⟨w.heap.size, 0, none⟩ = some (.int .u32 (s.gen : Int)) := ((bReads hbZY).1 w.heap.size 0 (by omega)).trans e0
      have hw := rwrite_any hk3 (by omega) (by omega) ((s.gen : Int) % 2) hEl
      clear hbZY hb1 hbY henc b2 e0 hk2 hBR hsl hk3
      unfold dp bkv at hw
      have Z2 := Lib.hid (And.intro hBY (write_done d ((s.gen : Int) % 2) E))
      obtain ⟨z, hz⟩ : ∃ z, d.writeE ((s.gen : Int) % 2) = z := ⟨_, rfl⟩
      have HZ := Lib.hid hz
      rw [hz] at hw
      clear hz hBY hz1 hzR hz2
      go_upto_region 5 with (first
        | (refine wpList_load_row rfl 40 (.tmp 5) rfl _ rfl _ (bvs E).toArray (0, 0) _ y5 Try.underlying40 rfl (bk_info hEl) ?_)
        | (go_at_call 22; refine Calls.mono hw ?_; rintro e w3 ⟨rfl, v1, F1, hk3, hs3⟩)
        | fail)
      have Z3 := Lib.hid (And.intro hs3 hk3)
      by_cases h0 : z = 0
      · subst h0
        have hsy := rsync_any hk3 (by have := Z2.out; omega) (by have := Z2.out; omega)
        clear hs3 hk3 hw y5 d0
        unfold dp at hsy
        go_wp2_with fail
        refine Calls.mono hsy ?_
        rintro e w4 ⟨rfl, v2, F2, hk4, hs4⟩
        go_wp2_with fail
        go_ret
        obtain ⟨n1, n2⟩ := putE_yes G.out HZ.out
        rw [n1, n2, HE.out]
        exact ⟨rfl, v2, F2, hk4, (DStep.of_below Z2.out.1).trans (Z3.out.1.trans hs4)⟩
      · clear hs3 hk3 hw y5 d0
        go_wp2_with fail
        go_ret
        obtain ⟨n1, n2⟩ := putE_cut G.out (by rw [HZ.out]; exact h0)
        rw [n1, n2, HE.out, HZ.out]
        exact ⟨rfl, v1, F1, Z3.out.2, (DStep.of_below Z2.out.1).trans Z3.out.1⟩
    · obtain ⟨n1, n2⟩ := putE_no (d := d) (s := s) (fun e => hne e.2)
      have N := Lib.hid (And.intro n1 n2)
      have g1 : (s.blocks == (d.bl.length : Int)) = false := by simpa using hne
      have g2 : decide (s.blocks = (d.bl.length : Int)) = false := by simpa using hne
      clear n1 n2 hgg henc hne
      refine wp_region_quiet_below (by kernel_rfl) (by kernel_rfl) ?_
      iterate 3 (quiet_step (fail))
      refine wpQuiet_load_row (by simp [Region.wanted, yielded, Act.put]) 38 _ rfl _ _ rfl cl hq _ Try.underlying38 rfl hsl2 ?_
      quiet_step ((go_at_call 50; exact Calls.regrown_of (hgood _)))
      iterate 3 (quiet_step (fail))
      iterate 8 (quiet_step (fail))
      iterate 1 (quiet_step (fail))
      refine wpQuiet_nil ?_
      intro _ hw'
      obtain ⟨pq, rfl⟩ := hw'
      go_wp2
      go_ret
      have hBR := hB.trans ((below_regrown W pq.d pq.os).mono hB.size)
      rw [N.out.1, N.out.2]
      exact ⟨rfl, v, F, hk.below (below_regrown W pq.d pq.os), DStep.of_below hBR⟩
end Go.Proofs.Ytnkdbkgihemjnaa
