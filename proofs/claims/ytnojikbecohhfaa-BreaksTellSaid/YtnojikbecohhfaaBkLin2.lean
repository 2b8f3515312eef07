/- The walk over a paragraph's line. -/
import Derived.Test.YtnojikbecohhfaaBkLine
namespace Go.Proofs.Ytnojikbecohhfaa
set_option linter.unusedSimpArgs false
set_option linter.unusedVariables false
open Go.RowKit Go.Sort

theorem smZ : ZeroIs Try.prog 46 #[.int .i64 0, .int .i64 0, .int .i64 0] := by unfold ZeroIs; kernel_rfl
theorem sm_info (a b d : Int) : (Try.prog.info? 46).map (·.size) = some (#[Value.int .i64 a, .int .i64 b, .int .i64 d] : Array Value).size := by
  show _ = some 3
  kernel_rfl
set_option maxHeartbeats 16000000 in
set_option maxRecDepth 100000 in
theorem pline_any {A : Option Addr} {n c : Nat} {l : List It} {wd tl : Int} (f t : Int) (hn : n ≤ 1000000) (hwd : 0 ≤ wd ∧ wd ≤ 10000) (w : World) (h : Sl w w.heap.size 6 A n (encs l)) :
    Calls Try.prog 47 #[pgv A n c wd tl, .int .i64 f, .int .i64 t] w (Ret w (.tuple #[.int .i64 (lineD l wd tl f t).n, .bool (lineD l wd tl f t).over, .bool (lineD l wd tl f t).may])) := by
  have hl := its_len h
  have hlb := line_bd l f t
  obtain ⟨D, hD⟩ : ∃ D, lineD l wd tl f t = D := ⟨_, rfl⟩
  rw [hD]
  obtain ⟨V, hV, y2, hb⟩ := pgbox w A n c wd tl
  have c0 : V.cell? ⟨w.heap.size, 0, none⟩ = some (.slice A n c) := blk_cell y2 rfl
  have hline := line_any (c := c) f t (by omega) (h.next hb)
  obtain ⟨B, hB⟩ : ∃ B, badL l wd f t = B := ⟨_, rfl⟩
  have hD2 := hD
  have hB2 := hB
  unfold lineD at hD2
  rw [hB] at hD2
  unfold badL at hB2
  rw [hl] at hB2
  obtain ⟨s, hs⟩ : ∃ s, line l f t = s := ⟨_, rfl⟩
  rw [hs] at hline hlb hD2 hB2
  obtain ⟨sw, sy, sz⟩ := s
  simp only [Sm.cells] at hline hlb hD2 hB2
  rw [hl] at hlb
  unfold pgv
  have HD := Lib.hid hD2
  have HB := Lib.hid hB2
  have HH := Lib.hid (And.intro h (And.intro hb y2))
  have g1 : IntKind.i64.wrap (wd - sw) = wd - sw := IntWalk.i64_in _ (by omega)
  have hz := smZ
  clear hD hB hD2 hB2 hs h hb y2
  go_enter Try.func47, Try.ntmps47
  go_wp2_with fail
  refine Calls.mono hline ?_
  rintro e V1 ⟨rfl, hb1⟩
  obtain ⟨Y, hY, y9, bY⟩ := newRow V1 #[.int .i64 0, .int .i64 0, .int .i64 0] #[.int .i64 sw, .int .i64 sy, .int .i64 sz] 46
  clear hline
  go_upto_region 2 with (first
    | (refine wpList_new rfl hz rfl ?_)
    | (refine wpList_store_row rfl 46 (.tmp 9) (.tmp 17) rfl _ #[.int .i64 sw, .int .i64 sy, .int .i64 sz] rfl rfl _ #[.int .i64 0, .int .i64 0, .int .i64 0] (heap_alloc_new _ _) (sm_info _ _ _) rfl (by simp [Value.oneCell']) ?_)
    | fail)
  try rw [hY]
  clear hY hz
  obtain ⟨h, hb, y2⟩ := HH.out
  have hbY := hb1.trans (bY.mono hb1.size)
  have y2Y := bBlk hbY (Array.getElem?_eq_some_iff.1 y2).1 y2
  have hBY := bNext hb hbY
  have c0 : Y.cell? ⟨w.heap.size, 0, none⟩ = some (.slice A n c) := blk_cell y2Y rfl
  have c1 : Y.cell? ⟨w.heap.size, 1, none⟩ = some (.int .i64 wd) := blk_cell y2Y rfl
  have c2 : Y.cell? ⟨w.heap.size, 2, none⟩ = some (.int .i64 tl) := blk_cell y2Y rfl
  have k0 : Y.cell? ⟨V1.heap.size, 0, none⟩ = some (.int .i64 sw) := blk_cell y9 rfl
  have k1 : Y.cell? ⟨V1.heap.size, 1, none⟩ = some (.int .i64 sy) := blk_cell y9 rfl
  have k2 : Y.cell? ⟨V1.heap.size, 2, none⟩ = some (.int .i64 sz) := blk_cell y9 rfl
  have HY := Lib.hid (And.intro (h.next hBY) (And.intro hBY y2Y))
  have ly2 := (Array.getElem?_eq_some_iff.1 y2Y).1
  have hbad := of_any (wd - sw) sy sz Y
  clear h hb y2 hbY y2Y hBY hb1 bY y9 HH
  go_wp2_with fail
  refine Calls.mono hbad ?_
  rintro e w' ⟨rfl, rfl⟩
  obtain ⟨bb, hbb⟩ : ∃ q, badOf (wd - sw) sy sz = q := ⟨_, rfl⟩
  rw [hbb]
  have HBB := Lib.hid hbb
  clear hbad hbb
  obtain ⟨bn, bk⟩ := bb
  simp only
  by_cases hlast : t = (n : Int) ∧ 0 ≤ wd - sw
  · have hBe : B = (0, true) := by rw [← HB.out, if_pos hlast]
    have e1 : t = (n : Int) := hlast.1
    have e2 : 0 ≤ wd - sw := hlast.2
    clear hlast hwd
    subst e1
    obtain ⟨h, hBY, y2Y⟩ := HY.out
    have hcost := fun W (hb : Below Y.heap.size Y W) => cost_any (c := c) (wd := wd) (tl := tl) (n : Int) hn W (h.next hb)
    have hpf := fun W (hb : Below Y.heap.size Y W) => pen_any (c := c) (wd := wd) (tl := tl) f hn W (h.next hb)
    have hpt := fun W (hb : Below Y.heap.size Y W) => pen_any (c := c) (wd := wd) (tl := tl) (n : Int) hn W (h.next hb)
    obtain ⟨C, hC⟩ : ∃ C, costAt l (n : Int) = C := ⟨_, rfl⟩
    obtain ⟨Tf, hTf⟩ : ∃ T, penAt l f = T := ⟨_, rfl⟩
    obtain ⟨Tt, hTt⟩ : ∃ T, penAt l (n : Int) = T := ⟨_, rfl⟩
    simp only [hC] at hcost
    simp only [hTf] at hpf
    simp only [hTt] at hpt
    unfold pgv at hcost hpf hpt
    have HT := Lib.hid (show D = ⟨dem 0 C (Tf && Tt), false, decide (0 ≤ tl)⟩ by rw [← HD.out, hBe, hC, hTf, hTt]; simp)
    have hr3 : Y.rangeAt w.heap.size 0 [.slice A n c, .int .i64 wd, .int .i64 tl] := range_blk y2Y
    have hpi : (Try.prog.info? 59).map (·.size) = some [Value.slice A n c, .int .i64 wd, .int .i64 tl].length := by
      show _ = some 3
      kernel_rfl
    let S : World → Prop := fun w' => Below Y.heap.size Y w'
    have r3 : ∀ w', S w' → w'.rangeAt w.heap.size 0 [.slice A n c, .int .i64 wd, .int .i64 tl] := fun w' h => bRange h ly2 hr3
    have q2 : ∀ w', S w' → w'.cell? ⟨w.heap.size, 2, none⟩ = some (.int .i64 tl) := fun w' h => (Below.cell (show Below Y.heap.size Y w' from h) (p := ⟨w.heap.size, 2, none⟩) ly2).trans c2
    have hS0 : S Y.drew := (Below.refl _ _).drew
    have HBY := Lib.hid hBY
    clear hBe hC hTf hTt h hBY y2Y HY HD hlb
    cases Tf
    · go_upto_region 8 with (fail)
      clear hr3 c0 c1 c2 k0 k1 k2
      refine wp_region_held (S := S) (by kernel_rfl) ?_
      change wpAnyH _ _ _ _ S _ _ _ Y.drew
      change At 0 _
      iterate 1 (first | (apply tkA; (case hi => (simp only [List.getElem?_toArray, List.getElem?_cons_zero, List.getElem?_cons_succ]; rfl)); (case hw => rfl); (case hy => (intro w' hSw; (try simp only [S] at hSw); go_simp; (try with_reducible rfl))); (case hs => kernel_rfl); (case hf => kernel_rfl); (case hr => kernel_rfl); (case hQ => exact fun _ _ _ h => h); (case hS => assumption); (try simp only [Act.put, List.setIfInBounds_toArray, List.set_cons_zero, List.set_cons_succ, Nat.reduceAdd])) | (apply skA; (case hi => (simp only [List.getElem?_toArray, List.getElem?_cons_zero, List.getElem?_cons_succ]; rfl)); (case hw => rfl); (case hs => kernel_rfl); (case hf => kernel_rfl); (case hr => kernel_rfl); (case hQ => exact fun _ _ _ h => h); (case hS => assumption); (try simp only [Act.put, List.setIfInBounds_toArray, List.set_cons_zero, List.set_cons_succ, Nat.reduceAdd])))
      change wpAnyH _ _ _ _ _ _ _ _ _
      refine wpAnyH_take (i := 1) (oi := ?oi_41) (v := ?v_41) ?ho_41 ?h1_41 ?h2_41 ?h3_41 ?hq_41 (Or.inl ⟨?hw_41, ?hy_41⟩) ?hs_41 ?rest_41; (case h2_41 => kernel_rfl); (case h3_41 => kernel_rfl); (case ho_41 => (simp only [List.getElem?_toArray, List.getElem?_cons_zero, List.getElem?_cons_succ]; rfl)); (case h1_41 => kernel_rfl); (case hq_41 => exact fun _ _ _ h => h); (case hw_41 => rfl); (case hy_41 => (intro w' hSw; refine exec_load_row (x := .tmp 3) ?_ ?_ (r3 w' hSw) Try.underlying59 ?_ hpi <;> rfl)); (case hs_41 => assumption); (try simp only [Act.put, List.setIfInBounds_toArray, List.set_cons_zero, List.set_cons_succ])
      refine wpAnyH_take (i := 2) (oi := ?oi_14) (v := ?v_14) ?ho_14 ?h1_14 ?h2_14 ?h3_14 ?hq_14 (Or.inl ⟨?hw_14, ?hy_14⟩) ?hs_14 ?rest_14; (case h2_14 => kernel_rfl); (case h3_14 => kernel_rfl); (case ho_14 => (simp only [List.getElem?_toArray, List.getElem?_cons_zero, List.getElem?_cons_succ]; rfl)); (case h1_14 => kernel_rfl); (case hq_14 => exact fun _ _ _ h => h); (case hw_14 => rfl); (case hy_14 => (intro w' hSw; (try simp only [S] at hSw); go_simp; (try with_reducible rfl))); (case hs_14 => assumption); (try simp only [Act.put, List.setIfInBounds_toArray, List.set_cons_zero, List.set_cons_succ])
      refine wpAnyH_take (i := 4) (oi := ?oi_42) (v := ?v_42) ?ho_42 ?h1_42 ?h2_42 ?h3_42 ?hq_42 (Or.inl ⟨?hw_42, ?hy_42⟩) ?hs_42 ?rest_42; (case h2_42 => kernel_rfl); (case h3_42 => kernel_rfl); (case ho_42 => (simp only [List.getElem?_toArray, List.getElem?_cons_zero, List.getElem?_cons_succ]; rfl)); (case h1_42 => kernel_rfl); (case hq_42 => exact fun _ _ _ h => h); (case hw_42 => rfl); (case hy_42 => (intro w' hSw; refine exec_load_row (x := .tmp 3) ?_ ?_ (r3 w' hSw) Try.underlying59 ?_ hpi <;> rfl)); (case hs_42 => assumption); (try simp only [Act.put, List.setIfInBounds_toArray, List.set_cons_zero, List.set_cons_succ])
      refine wpAnyH_take (i := 5) (oi := ?oi_15) (v := ?v_15) ?ho_15 ?h1_15 ?h2_15 ?h3_15 ?hq_15 (Or.inl ⟨?hw_15, ?hy_15⟩) ?hs_15 ?rest_15; (case h2_15 => kernel_rfl); (case h3_15 => kernel_rfl); (case ho_15 => (simp only [List.getElem?_toArray, List.getElem?_cons_zero, List.getElem?_cons_succ]; rfl)); (case h1_15 => kernel_rfl); (case hq_15 => exact fun _ _ _ h => h); (case hw_15 => rfl); (case hy_15 => (intro w' hSw; (try simp only [S] at hSw); go_simp; (try with_reducible rfl))); (case hs_15 => assumption); (try simp only [Act.put, List.setIfInBounds_toArray, List.set_cons_zero, List.set_cons_succ])
      change At 13 _
      iterate 4 (first | (apply tkA; (case hi => (simp only [List.getElem?_toArray, List.getElem?_cons_zero, List.getElem?_cons_succ]; rfl)); (case hw => rfl); (case hy => (intro w' hSw; have z2 := q2 w' hSw; (try simp only [S] at hSw); go_simp; (try with_reducible rfl))); (case hs => kernel_rfl); (case hf => kernel_rfl); (case hr => kernel_rfl); (case hQ => exact fun _ _ _ h => h); (case hS => assumption); (try simp only [Act.put, List.setIfInBounds_toArray, List.set_cons_zero, List.set_cons_succ, Nat.reduceAdd])) | (apply skA; (case hi => (simp only [List.getElem?_toArray, List.getElem?_cons_zero, List.getElem?_cons_succ]; rfl)); (case hw => rfl); (case hs => kernel_rfl); (case hf => kernel_rfl); (case hr => kernel_rfl); (case hQ => exact fun _ _ _ h => h); (case hS => assumption); (try simp only [Act.put, List.setIfInBounds_toArray, List.set_cons_zero, List.set_cons_succ, Nat.reduceAdd])))
      change wpAnyH _ _ _ _ _ _ _ _ _
      refine wpAnyH_ready (rs := [3]) (by kernel_rfl) (by simp) (AllReadyH.cons (o := ?oo3_56) ?hoo3_56 (fun K hK => ?steponly56) AllReadyH.nil); (case hoo3_56 => (simp only [List.getElem?_toArray, List.getElem?_cons_zero, List.getElem?_cons_succ]; rfl))
      go_simp
      refine Calls.mono (hcost _ hS0) ?_
      rintro e U1 ⟨rfl, hbU1⟩
      have hSU1 : S U1 := (show Below Y.heap.size Y Y.drew from hS0).trans (hbU1.mono (Below.size (show Below Y.heap.size Y Y.drew from hS0)))
      refine hK.out _ _ hSU1 (fun _ => ?_)
      clear hK K
      (try simp only [Act.put, List.setIfInBounds_toArray, List.set_cons_zero, List.set_cons_succ])
      refine wpAnyH_ready (rs := [6]) (by kernel_rfl) (by simp) (AllReadyH.cons (o := ?oo6_57) ?hoo6_57 (fun K hK => ?steponly57) AllReadyH.nil); (case hoo6_57 => (simp only [List.getElem?_toArray, List.getElem?_cons_zero, List.getElem?_cons_succ]; rfl))
      go_simp
      refine Calls.mono (hpf _ hSU1) ?_
      rintro e U2 ⟨rfl, hbU2⟩
      have hSU2 : S U2 := (show Below Y.heap.size Y U1 from hSU1).trans (hbU2.mono (Below.size (show Below Y.heap.size Y U1 from hSU1)))
      refine hK.out _ _ hSU2 (fun _ => ?_)
      clear hK K
      (try simp only [Act.put, List.setIfInBounds_toArray, List.set_cons_zero, List.set_cons_succ])
      refine wpAnyH_take (i := 7) (oi := ?oi_16) (v := ?v_16) ?ho_16 ?h1_16 ?h2_16 ?h3_16 ?hq_16 (Or.inl ⟨?hw_16, ?hy_16⟩) ?hs_16 ?rest_16; (case h2_16 => kernel_rfl); (case h3_16 => kernel_rfl); (case ho_16 => (simp only [List.getElem?_toArray, List.getElem?_cons_zero, List.getElem?_cons_succ]; rfl)); (case h1_16 => kernel_rfl); (case hq_16 => exact fun _ _ _ h => h); (case hw_16 => rfl); (case hy_16 => (intro w' hSw; (try simp only [S] at hSw); go_simp; (try with_reducible rfl))); (case hs_16 => assumption); (try simp only [Act.put, List.setIfInBounds_toArray, List.set_cons_zero, List.set_cons_succ])
      refine wpAnyH_take (i := 8) (oi := ?oi_5) (v := undef) ?ho_5 ?h1_5 ?h2_5 ?h3_5 ?hq_5 (Or.inr ⟨?hw_5, ?hy_5⟩) ?hs_5 ?rest_5; (case h2_5 => kernel_rfl); (case h3_5 => kernel_rfl); (case ho_5 => (simp only [List.getElem?_toArray, List.getElem?_cons_zero, List.getElem?_cons_succ]; rfl)); (case h1_5 => kernel_rfl); (case hq_5 => exact fun _ _ _ h => h); (case hw_5 => rfl); (case hy_5 => rfl); (case hs_5 => assumption); (try simp only [Act.put, List.setIfInBounds_toArray, List.set_cons_zero, List.set_cons_succ])
      refine wpAnyH_take (i := 9) (oi := ?oi_6) (v := undef) ?ho_6 ?h1_6 ?h2_6 ?h3_6 ?hq_6 (Or.inr ⟨?hw_6, ?hy_6⟩) ?hs_6 ?rest_6; (case h2_6 => kernel_rfl); (case h3_6 => kernel_rfl); (case ho_6 => (simp only [List.getElem?_toArray, List.getElem?_cons_zero, List.getElem?_cons_succ]; rfl)); (case h1_6 => kernel_rfl); (case hq_6 => exact fun _ _ _ h => h); (case hw_6 => rfl); (case hy_6 => rfl); (case hs_6 => assumption); (try simp only [Act.put, List.setIfInBounds_toArray, List.set_cons_zero, List.set_cons_succ])
      refine wpAnyH_take (i := 10) (oi := ?oi_7) (v := undef) ?ho_7 ?h1_7 ?h2_7 ?h3_7 ?hq_7 (Or.inr ⟨?hw_7, ?hy_7⟩) ?hs_7 ?rest_7; (case h2_7 => kernel_rfl); (case h3_7 => kernel_rfl); (case ho_7 => (simp only [List.getElem?_toArray, List.getElem?_cons_zero, List.getElem?_cons_succ]; rfl)); (case h1_7 => kernel_rfl); (case hq_7 => exact fun _ _ _ h => h); (case hw_7 => rfl); (case hy_7 => rfl); (case hs_7 => assumption); (try simp only [Act.put, List.setIfInBounds_toArray, List.set_cons_zero, List.set_cons_succ])
      refine wpAnyH_take (i := 11) (oi := ?oi_17) (v := ?v_17) ?ho_17 ?h1_17 ?h2_17 ?h3_17 ?hq_17 (Or.inl ⟨?hw_17, ?hy_17⟩) ?hs_17 ?rest_17; (case h2_17 => kernel_rfl); (case h3_17 => kernel_rfl); (case ho_17 => (simp only [List.getElem?_toArray, List.getElem?_cons_zero, List.getElem?_cons_succ]; rfl)); (case h1_17 => kernel_rfl); (case hq_17 => exact fun _ _ _ h => h); (case hw_17 => rfl); (case hy_17 => (intro w' hSw; (try simp only [S] at hSw); go_simp; (try with_reducible rfl))); (case hs_17 => assumption); (try simp only [Act.put, List.setIfInBounds_toArray, List.set_cons_zero, List.set_cons_succ])
      refine wpAnyH_ready (rs := [12]) (by kernel_rfl) (by simp) (AllReadyH.cons (o := ?oo12_58) ?hoo12_58 (fun K hK => ?steponly58) AllReadyH.nil); (case hoo12_58 => (simp only [List.getElem?_toArray, List.getElem?_cons_zero, List.getElem?_cons_succ]; rfl))
      go_simp
      refine Calls.mono (dem_any 0 C false _) ?_
      rintro e U4 ⟨rfl, hbU4⟩
      have hSU4 : S U4 := by rw [← hbU4]; exact hSU2
      refine hK.out _ _ hSU4 (fun _ => ?_)
      clear hK K
      (try simp only [Act.put, List.setIfInBounds_toArray, List.set_cons_zero, List.set_cons_succ])
      change At 17 _
      iterate 3 (first | (apply tkA; (case hi => (simp only [List.getElem?_toArray, List.getElem?_cons_zero, List.getElem?_cons_succ]; rfl)); (case hw => rfl); (case hy => (intro w' hSw; (try simp only [S] at hSw); go_simp; (try with_reducible rfl))); (case hs => kernel_rfl); (case hf => kernel_rfl); (case hr => kernel_rfl); (case hQ => exact fun _ _ _ h => h); (case hS => assumption); (try simp only [Act.put, List.setIfInBounds_toArray, List.set_cons_zero, List.set_cons_succ, Nat.reduceAdd])) | (apply skA; (case hi => (simp only [List.getElem?_toArray, List.getElem?_cons_zero, List.getElem?_cons_succ]; rfl)); (case hw => rfl); (case hs => kernel_rfl); (case hf => kernel_rfl); (case hr => kernel_rfl); (case hQ => exact fun _ _ _ h => h); (case hS => assumption); (try simp only [Act.put, List.setIfInBounds_toArray, List.set_cons_zero, List.set_cons_succ, Nat.reduceAdd])))
      change wpAnyH _ _ _ _ _ _ _ _ _
      refine wpAnyH_done (by kernel_rfl) ?_ _
      have HE := Lib.hid (show Below Y.heap.size Y _ from hSU4)
      clear hS0 hSU1 hSU2 hSU4 r3 q2 hcost hpf hpt
      go_wp2_with fail
      go_returns
      exact Ret.mk (by rw [HT.out]; rfl) (bNext HBY.out HE.out)
    · go_upto_region 8 with (fail)
      clear hr3 c0 c1 c2 k0 k1 k2
      refine wp_region_held (S := S) (by kernel_rfl) ?_
      change wpAnyH _ _ _ _ S _ _ _ Y.drew
      change At 0 _
      iterate 1 (first | (apply tkA; (case hi => (simp only [List.getElem?_toArray, List.getElem?_cons_zero, List.getElem?_cons_succ]; rfl)); (case hw => rfl); (case hy => (intro w' hSw; (try simp only [S] at hSw); go_simp; (try with_reducible rfl))); (case hs => kernel_rfl); (case hf => kernel_rfl); (case hr => kernel_rfl); (case hQ => exact fun _ _ _ h => h); (case hS => assumption); (try simp only [Act.put, List.setIfInBounds_toArray, List.set_cons_zero, List.set_cons_succ, Nat.reduceAdd])) | (apply skA; (case hi => (simp only [List.getElem?_toArray, List.getElem?_cons_zero, List.getElem?_cons_succ]; rfl)); (case hw => rfl); (case hs => kernel_rfl); (case hf => kernel_rfl); (case hr => kernel_rfl); (case hQ => exact fun _ _ _ h => h); (case hS => assumption); (try simp only [Act.put, List.setIfInBounds_toArray, List.set_cons_zero, List.set_cons_succ, Nat.reduceAdd])))
      change wpAnyH _ _ _ _ _ _ _ _ _
      refine wpAnyH_take (i := 1) (oi := ?oi_43) (v := ?v_43) ?ho_43 ?h1_43 ?h2_43 ?h3_43 ?hq_43 (Or.inl ⟨?hw_43, ?hy_43⟩) ?hs_43 ?rest_43; (case h2_43 => kernel_rfl); (case h3_43 => kernel_rfl); (case ho_43 => (simp only [List.getElem?_toArray, List.getElem?_cons_zero, List.getElem?_cons_succ]; rfl)); (case h1_43 => kernel_rfl); (case hq_43 => exact fun _ _ _ h => h); (case hw_43 => rfl); (case hy_43 => (intro w' hSw; refine exec_load_row (x := .tmp 3) ?_ ?_ (r3 w' hSw) Try.underlying59 ?_ hpi <;> rfl)); (case hs_43 => assumption); (try simp only [Act.put, List.setIfInBounds_toArray, List.set_cons_zero, List.set_cons_succ])
      refine wpAnyH_take (i := 2) (oi := ?oi_18) (v := ?v_18) ?ho_18 ?h1_18 ?h2_18 ?h3_18 ?hq_18 (Or.inl ⟨?hw_18, ?hy_18⟩) ?hs_18 ?rest_18; (case h2_18 => kernel_rfl); (case h3_18 => kernel_rfl); (case ho_18 => (simp only [List.getElem?_toArray, List.getElem?_cons_zero, List.getElem?_cons_succ]; rfl)); (case h1_18 => kernel_rfl); (case hq_18 => exact fun _ _ _ h => h); (case hw_18 => rfl); (case hy_18 => (intro w' hSw; (try simp only [S] at hSw); go_simp; (try with_reducible rfl))); (case hs_18 => assumption); (try simp only [Act.put, List.setIfInBounds_toArray, List.set_cons_zero, List.set_cons_succ])
      refine wpAnyH_take (i := 4) (oi := ?oi_44) (v := ?v_44) ?ho_44 ?h1_44 ?h2_44 ?h3_44 ?hq_44 (Or.inl ⟨?hw_44, ?hy_44⟩) ?hs_44 ?rest_44; (case h2_44 => kernel_rfl); (case h3_44 => kernel_rfl); (case ho_44 => (simp only [List.getElem?_toArray, List.getElem?_cons_zero, List.getElem?_cons_succ]; rfl)); (case h1_44 => kernel_rfl); (case hq_44 => exact fun _ _ _ h => h); (case hw_44 => rfl); (case hy_44 => (intro w' hSw; refine exec_load_row (x := .tmp 3) ?_ ?_ (r3 w' hSw) Try.underlying59 ?_ hpi <;> rfl)); (case hs_44 => assumption); (try simp only [Act.put, List.setIfInBounds_toArray, List.set_cons_zero, List.set_cons_succ])
      refine wpAnyH_take (i := 5) (oi := ?oi_19) (v := ?v_19) ?ho_19 ?h1_19 ?h2_19 ?h3_19 ?hq_19 (Or.inl ⟨?hw_19, ?hy_19⟩) ?hs_19 ?rest_19; (case h2_19 => kernel_rfl); (case h3_19 => kernel_rfl); (case ho_19 => (simp only [List.getElem?_toArray, List.getElem?_cons_zero, List.getElem?_cons_succ]; rfl)); (case h1_19 => kernel_rfl); (case hq_19 => exact fun _ _ _ h => h); (case hw_19 => rfl); (case hy_19 => (intro w' hSw; (try simp only [S] at hSw); go_simp; (try with_reducible rfl))); (case hs_19 => assumption); (try simp only [Act.put, List.setIfInBounds_toArray, List.set_cons_zero, List.set_cons_succ])
      change At 13 _
      iterate 4 (first | (apply tkA; (case hi => (simp only [List.getElem?_toArray, List.getElem?_cons_zero, List.getElem?_cons_succ]; rfl)); (case hw => rfl); (case hy => (intro w' hSw; have z2 := q2 w' hSw; (try simp only [S] at hSw); go_simp; (try with_reducible rfl))); (case hs => kernel_rfl); (case hf => kernel_rfl); (case hr => kernel_rfl); (case hQ => exact fun _ _ _ h => h); (case hS => assumption); (try simp only [Act.put, List.setIfInBounds_toArray, List.set_cons_zero, List.set_cons_succ, Nat.reduceAdd])) | (apply skA; (case hi => (simp only [List.getElem?_toArray, List.getElem?_cons_zero, List.getElem?_cons_succ]; rfl)); (case hw => rfl); (case hs => kernel_rfl); (case hf => kernel_rfl); (case hr => kernel_rfl); (case hQ => exact fun _ _ _ h => h); (case hS => assumption); (try simp only [Act.put, List.setIfInBounds_toArray, List.set_cons_zero, List.set_cons_succ, Nat.reduceAdd])))
      change wpAnyH _ _ _ _ _ _ _ _ _
      refine wpAnyH_ready (rs := [3]) (by kernel_rfl) (by simp) (AllReadyH.cons (o := ?oo3_59) ?hoo3_59 (fun K hK => ?steponly59) AllReadyH.nil); (case hoo3_59 => (simp only [List.getElem?_toArray, List.getElem?_cons_zero, List.getElem?_cons_succ]; rfl))
      go_simp
      refine Calls.mono (hcost _ hS0) ?_
      rintro e U1 ⟨rfl, hbU1⟩
      have hSU1 : S U1 := (show Below Y.heap.size Y Y.drew from hS0).trans (hbU1.mono (Below.size (show Below Y.heap.size Y Y.drew from hS0)))
      refine hK.out _ _ hSU1 (fun _ => ?_)
      clear hK K
      (try simp only [Act.put, List.setIfInBounds_toArray, List.set_cons_zero, List.set_cons_succ])
      refine wpAnyH_ready (rs := [6]) (by kernel_rfl) (by simp) (AllReadyH.cons (o := ?oo6_60) ?hoo6_60 (fun K hK => ?steponly60) AllReadyH.nil); (case hoo6_60 => (simp only [List.getElem?_toArray, List.getElem?_cons_zero, List.getElem?_cons_succ]; rfl))
      go_simp
      refine Calls.mono (hpf _ hSU1) ?_
      rintro e U2 ⟨rfl, hbU2⟩
      have hSU2 : S U2 := (show Below Y.heap.size Y U1 from hSU1).trans (hbU2.mono (Below.size (show Below Y.heap.size Y U1 from hSU1)))
      refine hK.out _ _ hSU2 (fun _ => ?_)
      clear hK K
      (try simp only [Act.put, List.setIfInBounds_toArray, List.set_cons_zero, List.set_cons_succ])
      refine wpAnyH_take (i := 7) (oi := ?oi_20) (v := ?v_20) ?ho_20 ?h1_20 ?h2_20 ?h3_20 ?hq_20 (Or.inl ⟨?hw_20, ?hy_20⟩) ?hs_20 ?rest_20; (case h2_20 => kernel_rfl); (case h3_20 => kernel_rfl); (case ho_20 => (simp only [List.getElem?_toArray, List.getElem?_cons_zero, List.getElem?_cons_succ]; rfl)); (case h1_20 => kernel_rfl); (case hq_20 => exact fun _ _ _ h => h); (case hw_20 => rfl); (case hy_20 => (intro w' hSw; (try simp only [S] at hSw); go_simp; (try with_reducible rfl))); (case hs_20 => assumption); (try simp only [Act.put, List.setIfInBounds_toArray, List.set_cons_zero, List.set_cons_succ])
      refine wpAnyH_take (i := 8) (oi := ?oi_45) (v := ?v_45) ?ho_45 ?h1_45 ?h2_45 ?h3_45 ?hq_45 (Or.inl ⟨?hw_45, ?hy_45⟩) ?hs_45 ?rest_45; (case h2_45 => kernel_rfl); (case h3_45 => kernel_rfl); (case ho_45 => (simp only [List.getElem?_toArray, List.getElem?_cons_zero, List.getElem?_cons_succ]; rfl)); (case h1_45 => kernel_rfl); (case hq_45 => exact fun _ _ _ h => h); (case hw_45 => rfl); (case hy_45 => (intro w' hSw; refine exec_load_row (x := .tmp 3) ?_ ?_ (r3 w' hSw) Try.underlying59 ?_ hpi <;> rfl)); (case hs_45 => assumption); (try simp only [Act.put, List.setIfInBounds_toArray, List.set_cons_zero, List.set_cons_succ])
      refine wpAnyH_take (i := 9) (oi := ?oi_21) (v := ?v_21) ?ho_21 ?h1_21 ?h2_21 ?h3_21 ?hq_21 (Or.inl ⟨?hw_21, ?hy_21⟩) ?hs_21 ?rest_21; (case h2_21 => kernel_rfl); (case h3_21 => kernel_rfl); (case ho_21 => (simp only [List.getElem?_toArray, List.getElem?_cons_zero, List.getElem?_cons_succ]; rfl)); (case h1_21 => kernel_rfl); (case hq_21 => exact fun _ _ _ h => h); (case hw_21 => rfl); (case hy_21 => (intro w' hSw; (try simp only [S] at hSw); go_simp; (try with_reducible rfl))); (case hs_21 => assumption); (try simp only [Act.put, List.setIfInBounds_toArray, List.set_cons_zero, List.set_cons_succ])
      refine wpAnyH_ready (rs := [10]) (by kernel_rfl) (by simp) (AllReadyH.cons (o := ?oo10_61) ?hoo10_61 (fun K hK => ?steponly61) AllReadyH.nil); (case hoo10_61 => (simp only [List.getElem?_toArray, List.getElem?_cons_zero, List.getElem?_cons_succ]; rfl))
      go_simp
      refine Calls.mono (hpt _ hSU2) ?_
      rintro e U3 ⟨rfl, hbU3⟩
      have hSU3 : S U3 := (show Below Y.heap.size Y U2 from hSU2).trans (hbU3.mono (Below.size (show Below Y.heap.size Y U2 from hSU2)))
      refine hK.out _ _ hSU3 (fun _ => ?_)
      clear hK K
      (try simp only [Act.put, List.setIfInBounds_toArray, List.set_cons_zero, List.set_cons_succ])
      refine wpAnyH_take (i := 11) (oi := ?oi_22) (v := ?v_22) ?ho_22 ?h1_22 ?h2_22 ?h3_22 ?hq_22 (Or.inl ⟨?hw_22, ?hy_22⟩) ?hs_22 ?rest_22; (case h2_22 => kernel_rfl); (case h3_22 => kernel_rfl); (case ho_22 => (simp only [List.getElem?_toArray, List.getElem?_cons_zero, List.getElem?_cons_succ]; rfl)); (case h1_22 => kernel_rfl); (case hq_22 => exact fun _ _ _ h => h); (case hw_22 => rfl); (case hy_22 => (intro w' hSw; (try simp only [S] at hSw); go_simp; (try with_reducible rfl))); (case hs_22 => assumption); (try simp only [Act.put, List.setIfInBounds_toArray, List.set_cons_zero, List.set_cons_succ])
      refine wpAnyH_ready (rs := [12]) (by kernel_rfl) (by simp) (AllReadyH.cons (o := ?oo12_62) ?hoo12_62 (fun K hK => ?steponly62) AllReadyH.nil); (case hoo12_62 => (simp only [List.getElem?_toArray, List.getElem?_cons_zero, List.getElem?_cons_succ]; rfl))
      go_simp
      refine Calls.mono (dem_any 0 C Tt _) ?_
      rintro e U4 ⟨rfl, hbU4⟩
      have hSU4 : S U4 := by rw [← hbU4]; exact hSU3
      refine hK.out _ _ hSU4 (fun _ => ?_)
      clear hK K
      (try simp only [Act.put, List.setIfInBounds_toArray, List.set_cons_zero, List.set_cons_succ])
      change At 17 _
      iterate 3 (first | (apply tkA; (case hi => (simp only [List.getElem?_toArray, List.getElem?_cons_zero, List.getElem?_cons_succ]; rfl)); (case hw => rfl); (case hy => (intro w' hSw; (try simp only [S] at hSw); go_simp; (try with_reducible rfl))); (case hs => kernel_rfl); (case hf => kernel_rfl); (case hr => kernel_rfl); (case hQ => exact fun _ _ _ h => h); (case hS => assumption); (try simp only [Act.put, List.setIfInBounds_toArray, List.set_cons_zero, List.set_cons_succ, Nat.reduceAdd])) | (apply skA; (case hi => (simp only [List.getElem?_toArray, List.getElem?_cons_zero, List.getElem?_cons_succ]; rfl)); (case hw => rfl); (case hs => kernel_rfl); (case hf => kernel_rfl); (case hr => kernel_rfl); (case hQ => exact fun _ _ _ h => h); (case hS => assumption); (try simp only [Act.put, List.setIfInBounds_toArray, List.set_cons_zero, List.set_cons_succ, Nat.reduceAdd])))
      change wpAnyH _ _ _ _ _ _ _ _ _
      refine wpAnyH_done (by kernel_rfl) ?_ _
      have HE := Lib.hid (show Below Y.heap.size Y _ from hSU4)
      clear hS0 hSU1 hSU2 hSU3 hSU4 r3 q2 hcost hpf hpt
      go_wp2_with fail
      go_returns
      exact Ret.mk (by rw [HT.out]; rfl) (bNext HBY.out HE.out)
  · have hBe : B = (bn, bk) := by rw [← HB.out, if_neg hlast, HBB.out]
    have e1 : ¬ (t = (n : Int) ∧ 0 ≤ wd - sw) := hlast
    by_cases e0 : t = (n : Int)
    · have e2 : ¬ 0 ≤ wd - sw := fun h => e1 ⟨e0, h⟩
      clear e1 hlast
      subst e0
      cases bk
      · obtain ⟨h, hBY, y2Y⟩ := HY.out
        have hov := badOf_no (show (badOf (wd - sw) sy sz).2 = false by rw [HBB.out])
        have hd := HD.out
        rw [hBe, if_neg (by simp)] at hd
        obtain ⟨R, hR⟩ : ∃ R, 100000000000 * (min (-(wd - sw)) 10000 - min sz 10000) = R := ⟨_, rfl⟩
        rw [hR] at hd
        obtain ⟨dd, hdd⟩ : ∃ q, wd - sw = q := ⟨_, rfl⟩
        have hddb : -9223372036854775807 ≤ dd ∧ dd ≤ 9223372036854775807 := by omega
        rw [hdd] at hR hov e2 g1 ⊢
        have g2 : IntKind.i64.wrap (-dd) = -dd := IntWalk.i64_in _ (by omega)
        have g3 : IntKind.i64.wrap (min (-dd) 10000 - min sz 10000) = min (-dd) 10000 - min sz 10000 := IntWalk.i64_in _ (by omega)
        have g4 : IntKind.i64.wrap (100000000000 * (min (-dd) 10000 - min sz 10000)) = 100000000000 * (min (-dd) 10000 - min sz 10000) := IntWalk.i64_in _ (by omega)
        have HR := Lib.hid (And.intro hd hR)
        have HBY := Lib.hid hBY
        clear hBe hd hR h hBY y2Y HY HD HB HBB hdd hlb
        go_wp2_with fail
        go_returns
        exact Ret.mk (by rw [← HR.out.1, ← HR.out.2]; rfl) HBY.out
      · have hBe' := hBe
        obtain ⟨h, hBY, y2Y⟩ := HY.out
        have hcost := fun W (hb : Below Y.heap.size Y W) => cost_any (c := c) (wd := wd) (tl := tl) (n : Int) hn W (h.next hb)
        have hpf := fun W (hb : Below Y.heap.size Y W) => pen_any (c := c) (wd := wd) (tl := tl) f hn W (h.next hb)
        have hpt := fun W (hb : Below Y.heap.size Y W) => pen_any (c := c) (wd := wd) (tl := tl) (n : Int) hn W (h.next hb)
        obtain ⟨C, hC⟩ : ∃ C, costAt l (n : Int) = C := ⟨_, rfl⟩
        obtain ⟨Tf, hTf⟩ : ∃ T, penAt l f = T := ⟨_, rfl⟩
        obtain ⟨Tt, hTt⟩ : ∃ T, penAt l (n : Int) = T := ⟨_, rfl⟩
        simp only [hC] at hcost
        simp only [hTf] at hpf
        simp only [hTt] at hpt
        unfold pgv at hcost hpf hpt
        have HT := Lib.hid (show D = ⟨dem bn C (Tf && Tt), false, decide (bn ≤ tl)⟩ by rw [← HD.out, hBe, hC, hTf, hTt]; simp)
        have hr3 : Y.rangeAt w.heap.size 0 [.slice A n c, .int .i64 wd, .int .i64 tl] := range_blk y2Y
        have hpi : (Try.prog.info? 59).map (·.size) = some [Value.slice A n c, .int .i64 wd, .int .i64 tl].length := by
          show _ = some 3
          kernel_rfl
        let S : World → Prop := fun w' => Below Y.heap.size Y w'
        have r3 : ∀ w', S w' → w'.rangeAt w.heap.size 0 [.slice A n c, .int .i64 wd, .int .i64 tl] := fun w' h => bRange h ly2 hr3
        have q2 : ∀ w', S w' → w'.cell? ⟨w.heap.size, 2, none⟩ = some (.int .i64 tl) := fun w' h => (Below.cell (show Below Y.heap.size Y w' from h) (p := ⟨w.heap.size, 2, none⟩) ly2).trans c2
        have hS0 : S Y.drew := (Below.refl _ _).drew
        have HBY := Lib.hid hBY
        clear hBe hC hTf hTt h hBY y2Y HY HD hlb
        cases Tf
        · go_upto_region 8 with (fail)
          clear hr3 c0 c1 c2 k0 k1 k2
          refine wp_region_held (S := S) (by kernel_rfl) ?_
          change wpAnyH _ _ _ _ S _ _ _ Y.drew
          change At 0 _
          iterate 1 (first | (apply tkA; (case hi => (simp only [List.getElem?_toArray, List.getElem?_cons_zero, List.getElem?_cons_succ]; rfl)); (case hw => rfl); (case hy => (intro w' hSw; (try simp only [S] at hSw); go_simp; (try with_reducible rfl))); (case hs => kernel_rfl); (case hf => kernel_rfl); (case hr => kernel_rfl); (case hQ => exact fun _ _ _ h => h); (case hS => assumption); (try simp only [Act.put, List.setIfInBounds_toArray, List.set_cons_zero, List.set_cons_succ, Nat.reduceAdd])) | (apply skA; (case hi => (simp only [List.getElem?_toArray, List.getElem?_cons_zero, List.getElem?_cons_succ]; rfl)); (case hw => rfl); (case hs => kernel_rfl); (case hf => kernel_rfl); (case hr => kernel_rfl); (case hQ => exact fun _ _ _ h => h); (case hS => assumption); (try simp only [Act.put, List.setIfInBounds_toArray, List.set_cons_zero, List.set_cons_succ, Nat.reduceAdd])))
          change wpAnyH _ _ _ _ _ _ _ _ _
          refine wpAnyH_take (i := 1) (oi := ?oi_46) (v := ?v_46) ?ho_46 ?h1_46 ?h2_46 ?h3_46 ?hq_46 (Or.inl ⟨?hw_46, ?hy_46⟩) ?hs_46 ?rest_46; (case h2_46 => kernel_rfl); (case h3_46 => kernel_rfl); (case ho_46 => (simp only [List.getElem?_toArray, List.getElem?_cons_zero, List.getElem?_cons_succ]; rfl)); (case h1_46 => kernel_rfl); (case hq_46 => exact fun _ _ _ h => h); (case hw_46 => rfl); (case hy_46 => (intro w' hSw; refine exec_load_row (x := .tmp 3) ?_ ?_ (r3 w' hSw) Try.underlying59 ?_ hpi <;> rfl)); (case hs_46 => assumption); (try simp only [Act.put, List.setIfInBounds_toArray, List.set_cons_zero, List.set_cons_succ])
          refine wpAnyH_take (i := 2) (oi := ?oi_23) (v := ?v_23) ?ho_23 ?h1_23 ?h2_23 ?h3_23 ?hq_23 (Or.inl ⟨?hw_23, ?hy_23⟩) ?hs_23 ?rest_23; (case h2_23 => kernel_rfl); (case h3_23 => kernel_rfl); (case ho_23 => (simp only [List.getElem?_toArray, List.getElem?_cons_zero, List.getElem?_cons_succ]; rfl)); (case h1_23 => kernel_rfl); (case hq_23 => exact fun _ _ _ h => h); (case hw_23 => rfl); (case hy_23 => (intro w' hSw; (try simp only [S] at hSw); go_simp; (try with_reducible rfl))); (case hs_23 => assumption); (try simp only [Act.put, List.setIfInBounds_toArray, List.set_cons_zero, List.set_cons_succ])
          refine wpAnyH_take (i := 4) (oi := ?oi_47) (v := ?v_47) ?ho_47 ?h1_47 ?h2_47 ?h3_47 ?hq_47 (Or.inl ⟨?hw_47, ?hy_47⟩) ?hs_47 ?rest_47; (case h2_47 => kernel_rfl); (case h3_47 => kernel_rfl); (case ho_47 => (simp only [List.getElem?_toArray, List.getElem?_cons_zero, List.getElem?_cons_succ]; rfl)); (case h1_47 => kernel_rfl); (case hq_47 => exact fun _ _ _ h => h); (case hw_47 => rfl); (case hy_47 => (intro w' hSw; refine exec_load_row (x := .tmp 3) ?_ ?_ (r3 w' hSw) Try.underlying59 ?_ hpi <;> rfl)); (case hs_47 => assumption); (try simp only [Act.put, List.setIfInBounds_toArray, List.set_cons_zero, List.set_cons_succ])
          refine wpAnyH_take (i := 5) (oi := ?oi_24) (v := ?v_24) ?ho_24 ?h1_24 ?h2_24 ?h3_24 ?hq_24 (Or.inl ⟨?hw_24, ?hy_24⟩) ?hs_24 ?rest_24; (case h2_24 => kernel_rfl); (case h3_24 => kernel_rfl); (case ho_24 => (simp only [List.getElem?_toArray, List.getElem?_cons_zero, List.getElem?_cons_succ]; rfl)); (case h1_24 => kernel_rfl); (case hq_24 => exact fun _ _ _ h => h); (case hw_24 => rfl); (case hy_24 => (intro w' hSw; (try simp only [S] at hSw); go_simp; (try with_reducible rfl))); (case hs_24 => assumption); (try simp only [Act.put, List.setIfInBounds_toArray, List.set_cons_zero, List.set_cons_succ])
          change At 13 _
          iterate 4 (first | (apply tkA; (case hi => (simp only [List.getElem?_toArray, List.getElem?_cons_zero, List.getElem?_cons_succ]; rfl)); (case hw => rfl); (case hy => (intro w' hSw; have z2 := q2 w' hSw; (try simp only [S] at hSw); go_simp; (try with_reducible rfl))); (case hs => kernel_rfl); (case hf => kernel_rfl); (case hr => kernel_rfl); (case hQ => exact fun _ _ _ h => h); (case hS => assumption); (try simp only [Act.put, List.setIfInBounds_toArray, List.set_cons_zero, List.set_cons_succ, Nat.reduceAdd])) | (apply skA; (case hi => (simp only [List.getElem?_toArray, List.getElem?_cons_zero, List.getElem?_cons_succ]; rfl)); (case hw => rfl); (case hs => kernel_rfl); (case hf => kernel_rfl); (case hr => kernel_rfl); (case hQ => exact fun _ _ _ h => h); (case hS => assumption); (try simp only [Act.put, List.setIfInBounds_toArray, List.set_cons_zero, List.set_cons_succ, Nat.reduceAdd])))
          change wpAnyH _ _ _ _ _ _ _ _ _
          refine wpAnyH_ready (rs := [3]) (by kernel_rfl) (by simp) (AllReadyH.cons (o := ?oo3_63) ?hoo3_63 (fun K hK => ?steponly63) AllReadyH.nil); (case hoo3_63 => (simp only [List.getElem?_toArray, List.getElem?_cons_zero, List.getElem?_cons_succ]; rfl))
          go_simp
          refine Calls.mono (hcost _ hS0) ?_
          rintro e U1 ⟨rfl, hbU1⟩
          have hSU1 : S U1 := (show Below Y.heap.size Y Y.drew from hS0).trans (hbU1.mono (Below.size (show Below Y.heap.size Y Y.drew from hS0)))
          refine hK.out _ _ hSU1 (fun _ => ?_)
          clear hK K
          (try simp only [Act.put, List.setIfInBounds_toArray, List.set_cons_zero, List.set_cons_succ])
          refine wpAnyH_ready (rs := [6]) (by kernel_rfl) (by simp) (AllReadyH.cons (o := ?oo6_64) ?hoo6_64 (fun K hK => ?steponly64) AllReadyH.nil); (case hoo6_64 => (simp only [List.getElem?_toArray, List.getElem?_cons_zero, List.getElem?_cons_succ]; rfl))
          go_simp
          refine Calls.mono (hpf _ hSU1) ?_
          rintro e U2 ⟨rfl, hbU2⟩
          have hSU2 : S U2 := (show Below Y.heap.size Y U1 from hSU1).trans (hbU2.mono (Below.size (show Below Y.heap.size Y U1 from hSU1)))
          refine hK.out _ _ hSU2 (fun _ => ?_)
          clear hK K
          (try simp only [Act.put, List.setIfInBounds_toArray, List.set_cons_zero, List.set_cons_succ])
          refine wpAnyH_take (i := 7) (oi := ?oi_25) (v := ?v_25) ?ho_25 ?h1_25 ?h2_25 ?h3_25 ?hq_25 (Or.inl ⟨?hw_25, ?hy_25⟩) ?hs_25 ?rest_25; (case h2_25 => kernel_rfl); (case h3_25 => kernel_rfl); (case ho_25 => (simp only [List.getElem?_toArray, List.getElem?_cons_zero, List.getElem?_cons_succ]; rfl)); (case h1_25 => kernel_rfl); (case hq_25 => exact fun _ _ _ h => h); (case hw_25 => rfl); (case hy_25 => (intro w' hSw; (try simp only [S] at hSw); go_simp; (try with_reducible rfl))); (case hs_25 => assumption); (try simp only [Act.put, List.setIfInBounds_toArray, List.set_cons_zero, List.set_cons_succ])
          refine wpAnyH_take (i := 8) (oi := ?oi_8) (v := undef) ?ho_8 ?h1_8 ?h2_8 ?h3_8 ?hq_8 (Or.inr ⟨?hw_8, ?hy_8⟩) ?hs_8 ?rest_8; (case h2_8 => kernel_rfl); (case h3_8 => kernel_rfl); (case ho_8 => (simp only [List.getElem?_toArray, List.getElem?_cons_zero, List.getElem?_cons_succ]; rfl)); (case h1_8 => kernel_rfl); (case hq_8 => exact fun _ _ _ h => h); (case hw_8 => rfl); (case hy_8 => rfl); (case hs_8 => assumption); (try simp only [Act.put, List.setIfInBounds_toArray, List.set_cons_zero, List.set_cons_succ])
          refine wpAnyH_take (i := 9) (oi := ?oi_9) (v := undef) ?ho_9 ?h1_9 ?h2_9 ?h3_9 ?hq_9 (Or.inr ⟨?hw_9, ?hy_9⟩) ?hs_9 ?rest_9; (case h2_9 => kernel_rfl); (case h3_9 => kernel_rfl); (case ho_9 => (simp only [List.getElem?_toArray, List.getElem?_cons_zero, List.getElem?_cons_succ]; rfl)); (case h1_9 => kernel_rfl); (case hq_9 => exact fun _ _ _ h => h); (case hw_9 => rfl); (case hy_9 => rfl); (case hs_9 => assumption); (try simp only [Act.put, List.setIfInBounds_toArray, List.set_cons_zero, List.set_cons_succ])
          refine wpAnyH_take (i := 10) (oi := ?oi_10) (v := undef) ?ho_10 ?h1_10 ?h2_10 ?h3_10 ?hq_10 (Or.inr ⟨?hw_10, ?hy_10⟩) ?hs_10 ?rest_10; (case h2_10 => kernel_rfl); (case h3_10 => kernel_rfl); (case ho_10 => (simp only [List.getElem?_toArray, List.getElem?_cons_zero, List.getElem?_cons_succ]; rfl)); (case h1_10 => kernel_rfl); (case hq_10 => exact fun _ _ _ h => h); (case hw_10 => rfl); (case hy_10 => rfl); (case hs_10 => assumption); (try simp only [Act.put, List.setIfInBounds_toArray, List.set_cons_zero, List.set_cons_succ])
          refine wpAnyH_take (i := 11) (oi := ?oi_26) (v := ?v_26) ?ho_26 ?h1_26 ?h2_26 ?h3_26 ?hq_26 (Or.inl ⟨?hw_26, ?hy_26⟩) ?hs_26 ?rest_26; (case h2_26 => kernel_rfl); (case h3_26 => kernel_rfl); (case ho_26 => (simp only [List.getElem?_toArray, List.getElem?_cons_zero, List.getElem?_cons_succ]; rfl)); (case h1_26 => kernel_rfl); (case hq_26 => exact fun _ _ _ h => h); (case hw_26 => rfl); (case hy_26 => (intro w' hSw; (try simp only [S] at hSw); go_simp; (try with_reducible rfl))); (case hs_26 => assumption); (try simp only [Act.put, List.setIfInBounds_toArray, List.set_cons_zero, List.set_cons_succ])
          refine wpAnyH_ready (rs := [12]) (by kernel_rfl) (by simp) (AllReadyH.cons (o := ?oo12_65) ?hoo12_65 (fun K hK => ?steponly65) AllReadyH.nil); (case hoo12_65 => (simp only [List.getElem?_toArray, List.getElem?_cons_zero, List.getElem?_cons_succ]; rfl))
          go_simp
          refine Calls.mono (dem_any bn C false _) ?_
          rintro e U4 ⟨rfl, hbU4⟩
          have hSU4 : S U4 := by rw [← hbU4]; exact hSU2
          refine hK.out _ _ hSU4 (fun _ => ?_)
          clear hK K
          (try simp only [Act.put, List.setIfInBounds_toArray, List.set_cons_zero, List.set_cons_succ])
          change At 17 _
          iterate 3 (first | (apply tkA; (case hi => (simp only [List.getElem?_toArray, List.getElem?_cons_zero, List.getElem?_cons_succ]; rfl)); (case hw => rfl); (case hy => (intro w' hSw; (try simp only [S] at hSw); go_simp; (try with_reducible rfl))); (case hs => kernel_rfl); (case hf => kernel_rfl); (case hr => kernel_rfl); (case hQ => exact fun _ _ _ h => h); (case hS => assumption); (try simp only [Act.put, List.setIfInBounds_toArray, List.set_cons_zero, List.set_cons_succ, Nat.reduceAdd])) | (apply skA; (case hi => (simp only [List.getElem?_toArray, List.getElem?_cons_zero, List.getElem?_cons_succ]; rfl)); (case hw => rfl); (case hs => kernel_rfl); (case hf => kernel_rfl); (case hr => kernel_rfl); (case hQ => exact fun _ _ _ h => h); (case hS => assumption); (try simp only [Act.put, List.setIfInBounds_toArray, List.set_cons_zero, List.set_cons_succ, Nat.reduceAdd])))
          change wpAnyH _ _ _ _ _ _ _ _ _
          refine wpAnyH_done (by kernel_rfl) ?_ _
          have HE := Lib.hid (show Below Y.heap.size Y _ from hSU4)
          clear hS0 hSU1 hSU2 hSU4 r3 q2 hcost hpf hpt
          go_wp2_with fail
          go_returns
          exact Ret.mk (by rw [HT.out]; rfl) (bNext HBY.out HE.out)
        · go_upto_region 8 with (fail)
          clear hr3 c0 c1 c2 k0 k1 k2
          refine wp_region_held (S := S) (by kernel_rfl) ?_
          change wpAnyH _ _ _ _ S _ _ _ Y.drew
          change At 0 _
          iterate 1 (first | (apply tkA; (case hi => (simp only [List.getElem?_toArray, List.getElem?_cons_zero, List.getElem?_cons_succ]; rfl)); (case hw => rfl); (case hy => (intro w' hSw; (try simp only [S] at hSw); go_simp; (try with_reducible rfl))); (case hs => kernel_rfl); (case hf => kernel_rfl); (case hr => kernel_rfl); (case hQ => exact fun _ _ _ h => h); (case hS => assumption); (try simp only [Act.put, List.setIfInBounds_toArray, List.set_cons_zero, List.set_cons_succ, Nat.reduceAdd])) | (apply skA; (case hi => (simp only [List.getElem?_toArray, List.getElem?_cons_zero, List.getElem?_cons_succ]; rfl)); (case hw => rfl); (case hs => kernel_rfl); (case hf => kernel_rfl); (case hr => kernel_rfl); (case hQ => exact fun _ _ _ h => h); (case hS => assumption); (try simp only [Act.put, List.setIfInBounds_toArray, List.set_cons_zero, List.set_cons_succ, Nat.reduceAdd])))
          change wpAnyH _ _ _ _ _ _ _ _ _
          refine wpAnyH_take (i := 1) (oi := ?oi_48) (v := ?v_48) ?ho_48 ?h1_48 ?h2_48 ?h3_48 ?hq_48 (Or.inl ⟨?hw_48, ?hy_48⟩) ?hs_48 ?rest_48; (case h2_48 => kernel_rfl); (case h3_48 => kernel_rfl); (case ho_48 => (simp only [List.getElem?_toArray, List.getElem?_cons_zero, List.getElem?_cons_succ]; rfl)); (case h1_48 => kernel_rfl); (case hq_48 => exact fun _ _ _ h => h); (case hw_48 => rfl); (case hy_48 => (intro w' hSw; refine exec_load_row (x := .tmp 3) ?_ ?_ (r3 w' hSw) Try.underlying59 ?_ hpi <;> rfl)); (case hs_48 => assumption); (try simp only [Act.put, List.setIfInBounds_toArray, List.set_cons_zero, List.set_cons_succ])
          refine wpAnyH_take (i := 2) (oi := ?oi_27) (v := ?v_27) ?ho_27 ?h1_27 ?h2_27 ?h3_27 ?hq_27 (Or.inl ⟨?hw_27, ?hy_27⟩) ?hs_27 ?rest_27; (case h2_27 => kernel_rfl); (case h3_27 => kernel_rfl); (case ho_27 => (simp only [List.getElem?_toArray, List.getElem?_cons_zero, List.getElem?_cons_succ]; rfl)); (case h1_27 => kernel_rfl); (case hq_27 => exact fun _ _ _ h => h); (case hw_27 => rfl); (case hy_27 => (intro w' hSw; (try simp only [S] at hSw); go_simp; (try with_reducible rfl))); (case hs_27 => assumption); (try simp only [Act.put, List.setIfInBounds_toArray, List.set_cons_zero, List.set_cons_succ])
          refine wpAnyH_take (i := 4) (oi := ?oi_49) (v := ?v_49) ?ho_49 ?h1_49 ?h2_49 ?h3_49 ?hq_49 (Or.inl ⟨?hw_49, ?hy_49⟩) ?hs_49 ?rest_49; (case h2_49 => kernel_rfl); (case h3_49 => kernel_rfl); (case ho_49 => (simp only [List.getElem?_toArray, List.getElem?_cons_zero, List.getElem?_cons_succ]; rfl)); (case h1_49 => kernel_rfl); (case hq_49 => exact fun _ _ _ h => h); (case hw_49 => rfl); (case hy_49 => (intro w' hSw; refine exec_load_row (x := .tmp 3) ?_ ?_ (r3 w' hSw) Try.underlying59 ?_ hpi <;> rfl)); (case hs_49 => assumption); (try simp only [Act.put, List.setIfInBounds_toArray, List.set_cons_zero, List.set_cons_succ])
          refine wpAnyH_take (i := 5) (oi := ?oi_28) (v := ?v_28) ?ho_28 ?h1_28 ?h2_28 ?h3_28 ?hq_28 (Or.inl ⟨?hw_28, ?hy_28⟩) ?hs_28 ?rest_28; (case h2_28 => kernel_rfl); (case h3_28 => kernel_rfl); (case ho_28 => (simp only [List.getElem?_toArray, List.getElem?_cons_zero, List.getElem?_cons_succ]; rfl)); (case h1_28 => kernel_rfl); (case hq_28 => exact fun _ _ _ h => h); (case hw_28 => rfl); (case hy_28 => (intro w' hSw; (try simp only [S] at hSw); go_simp; (try with_reducible rfl))); (case hs_28 => assumption); (try simp only [Act.put, List.setIfInBounds_toArray, List.set_cons_zero, List.set_cons_succ])
          change At 13 _
          iterate 4 (first | (apply tkA; (case hi => (simp only [List.getElem?_toArray, List.getElem?_cons_zero, List.getElem?_cons_succ]; rfl)); (case hw => rfl); (case hy => (intro w' hSw; have z2 := q2 w' hSw; (try simp only [S] at hSw); go_simp; (try with_reducible rfl))); (case hs => kernel_rfl); (case hf => kernel_rfl); (case hr => kernel_rfl); (case hQ => exact fun _ _ _ h => h); (case hS => assumption); (try simp only [Act.put, List.setIfInBounds_toArray, List.set_cons_zero, List.set_cons_succ, Nat.reduceAdd])) | (apply skA; (case hi => (simp only [List.getElem?_toArray, List.getElem?_cons_zero, List.getElem?_cons_succ]; rfl)); (case hw => rfl); (case hs => kernel_rfl); (case hf => kernel_rfl); (case hr => kernel_rfl); (case hQ => exact fun _ _ _ h => h); (case hS => assumption); (try simp only [Act.put, List.setIfInBounds_toArray, List.set_cons_zero, List.set_cons_succ, Nat.reduceAdd])))
          change wpAnyH _ _ _ _ _ _ _ _ _
          refine wpAnyH_ready (rs := [3]) (by kernel_rfl) (by simp) (AllReadyH.cons (o := ?oo3_66) ?hoo3_66 (fun K hK => ?steponly66) AllReadyH.nil); (case hoo3_66 => (simp only [List.getElem?_toArray, List.getElem?_cons_zero, List.getElem?_cons_succ]; rfl))
          go_simp
          refine Calls.mono (hcost _ hS0) ?_
          rintro e U1 ⟨rfl, hbU1⟩
          have hSU1 : S U1 := (show Below Y.heap.size Y Y.drew from hS0).trans (hbU1.mono (Below.size (show Below Y.heap.size Y Y.drew from hS0)))
          refine hK.out _ _ hSU1 (fun _ => ?_)
          clear hK K
          (try simp only [Act.put, List.setIfInBounds_toArray, List.set_cons_zero, List.set_cons_succ])
          refine wpAnyH_ready (rs := [6]) (by kernel_rfl) (by simp) (AllReadyH.cons (o := ?oo6_67) ?hoo6_67 (fun K hK => ?steponly67) AllReadyH.nil); (case hoo6_67 => (simp only [List.getElem?_toArray, List.getElem?_cons_zero, List.getElem?_cons_succ]; rfl))
          go_simp
          refine Calls.mono (hpf _ hSU1) ?_
          rintro e U2 ⟨rfl, hbU2⟩
          have hSU2 : S U2 := (show Below Y.heap.size Y U1 from hSU1).trans (hbU2.mono (Below.size (show Below Y.heap.size Y U1 from hSU1)))
          refine hK.out _ _ hSU2 (fun _ => ?_)
          clear hK K
          (try simp only [Act.put, List.setIfInBounds_toArray, List.set_cons_zero, List.set_cons_succ])
          refine wpAnyH_take (i := 7) (oi := ?oi_29) (v := ?v_29) ?ho_29 ?h1_29 ?h2_29 ?h3_29 ?hq_29 (Or.inl ⟨?hw_29, ?hy_29⟩) ?hs_29 ?rest_29; (case h2_29 => kernel_rfl); (case h3_29 => kernel_rfl); (case ho_29 => (simp only [List.getElem?_toArray, List.getElem?_cons_zero, List.getElem?_cons_succ]; rfl)); (case h1_29 => kernel_rfl); (case hq_29 => exact fun _ _ _ h => h); (case hw_29 => rfl); (case hy_29 => (intro w' hSw; (try simp only [S] at hSw); go_simp; (try with_reducible rfl))); (case hs_29 => assumption); (try simp only [Act.put, List.setIfInBounds_toArray, List.set_cons_zero, List.set_cons_succ])
          refine wpAnyH_take (i := 8) (oi := ?oi_50) (v := ?v_50) ?ho_50 ?h1_50 ?h2_50 ?h3_50 ?hq_50 (Or.inl ⟨?hw_50, ?hy_50⟩) ?hs_50 ?rest_50; (case h2_50 => kernel_rfl); (case h3_50 => kernel_rfl); (case ho_50 => (simp only [List.getElem?_toArray, List.getElem?_cons_zero, List.getElem?_cons_succ]; rfl)); (case h1_50 => kernel_rfl); (case hq_50 => exact fun _ _ _ h => h); (case hw_50 => rfl); (case hy_50 => (intro w' hSw; refine exec_load_row (x := .tmp 3) ?_ ?_ (r3 w' hSw) Try.underlying59 ?_ hpi <;> rfl)); (case hs_50 => assumption); (try simp only [Act.put, List.setIfInBounds_toArray, List.set_cons_zero, List.set_cons_succ])
          refine wpAnyH_take (i := 9) (oi := ?oi_30) (v := ?v_30) ?ho_30 ?h1_30 ?h2_30 ?h3_30 ?hq_30 (Or.inl ⟨?hw_30, ?hy_30⟩) ?hs_30 ?rest_30; (case h2_30 => kernel_rfl); (case h3_30 => kernel_rfl); (case ho_30 => (simp only [List.getElem?_toArray, List.getElem?_cons_zero, List.getElem?_cons_succ]; rfl)); (case h1_30 => kernel_rfl); (case hq_30 => exact fun _ _ _ h => h); (case hw_30 => rfl); (case hy_30 => (intro w' hSw; (try simp only [S] at hSw); go_simp; (try with_reducible rfl))); (case hs_30 => assumption); (try simp only [Act.put, List.setIfInBounds_toArray, List.set_cons_zero, List.set_cons_succ])
          refine wpAnyH_ready (rs := [10]) (by kernel_rfl) (by simp) (AllReadyH.cons (o := ?oo10_68) ?hoo10_68 (fun K hK => ?steponly68) AllReadyH.nil); (case hoo10_68 => (simp only [List.getElem?_toArray, List.getElem?_cons_zero, List.getElem?_cons_succ]; rfl))
          go_simp
          refine Calls.mono (hpt _ hSU2) ?_
          rintro e U3 ⟨rfl, hbU3⟩
          have hSU3 : S U3 := (show Below Y.heap.size Y U2 from hSU2).trans (hbU3.mono (Below.size (show Below Y.heap.size Y U2 from hSU2)))
          refine hK.out _ _ hSU3 (fun _ => ?_)
          clear hK K
          (try simp only [Act.put, List.setIfInBounds_toArray, List.set_cons_zero, List.set_cons_succ])
          refine wpAnyH_take (i := 11) (oi := ?oi_31) (v := ?v_31) ?ho_31 ?h1_31 ?h2_31 ?h3_31 ?hq_31 (Or.inl ⟨?hw_31, ?hy_31⟩) ?hs_31 ?rest_31; (case h2_31 => kernel_rfl); (case h3_31 => kernel_rfl); (case ho_31 => (simp only [List.getElem?_toArray, List.getElem?_cons_zero, List.getElem?_cons_succ]; rfl)); (case h1_31 => kernel_rfl); (case hq_31 => exact fun _ _ _ h => h); (case hw_31 => rfl); (case hy_31 => (intro w' hSw; (try simp only [S] at hSw); go_simp; (try with_reducible rfl))); (case hs_31 => assumption); (try simp only [Act.put, List.setIfInBounds_toArray, List.set_cons_zero, List.set_cons_succ])
          refine wpAnyH_ready (rs := [12]) (by kernel_rfl) (by simp) (AllReadyH.cons (o := ?oo12_69) ?hoo12_69 (fun K hK => ?steponly69) AllReadyH.nil); (case hoo12_69 => (simp only [List.getElem?_toArray, List.getElem?_cons_zero, List.getElem?_cons_succ]; rfl))
          go_simp
          refine Calls.mono (dem_any bn C Tt _) ?_
          rintro e U4 ⟨rfl, hbU4⟩
          have hSU4 : S U4 := by rw [← hbU4]; exact hSU3
          refine hK.out _ _ hSU4 (fun _ => ?_)
          clear hK K
          (try simp only [Act.put, List.setIfInBounds_toArray, List.set_cons_zero, List.set_cons_succ])
          change At 17 _
          iterate 3 (first | (apply tkA; (case hi => (simp only [List.getElem?_toArray, List.getElem?_cons_zero, List.getElem?_cons_succ]; rfl)); (case hw => rfl); (case hy => (intro w' hSw; (try simp only [S] at hSw); go_simp; (try with_reducible rfl))); (case hs => kernel_rfl); (case hf => kernel_rfl); (case hr => kernel_rfl); (case hQ => exact fun _ _ _ h => h); (case hS => assumption); (try simp only [Act.put, List.setIfInBounds_toArray, List.set_cons_zero, List.set_cons_succ, Nat.reduceAdd])) | (apply skA; (case hi => (simp only [List.getElem?_toArray, List.getElem?_cons_zero, List.getElem?_cons_succ]; rfl)); (case hw => rfl); (case hs => kernel_rfl); (case hf => kernel_rfl); (case hr => kernel_rfl); (case hQ => exact fun _ _ _ h => h); (case hS => assumption); (try simp only [Act.put, List.setIfInBounds_toArray, List.set_cons_zero, List.set_cons_succ, Nat.reduceAdd])))
          change wpAnyH _ _ _ _ _ _ _ _ _
          refine wpAnyH_done (by kernel_rfl) ?_ _
          have HE := Lib.hid (show Below Y.heap.size Y _ from hSU4)
          clear hS0 hSU1 hSU2 hSU3 hSU4 r3 q2 hcost hpf hpt
          go_wp2_with fail
          go_returns
          exact Ret.mk (by rw [HT.out]; rfl) (bNext HBY.out HE.out)
    · clear e1 hlast
      cases bk
      · obtain ⟨h, hBY, y2Y⟩ := HY.out
        have hov := badOf_no (show (badOf (wd - sw) sy sz).2 = false by rw [HBB.out])
        have hd := HD.out
        rw [hBe, if_neg (by simp)] at hd
        obtain ⟨R, hR⟩ : ∃ R, 100000000000 * (min (-(wd - sw)) 10000 - min sz 10000) = R := ⟨_, rfl⟩
        rw [hR] at hd
        obtain ⟨dd, hdd⟩ : ∃ q, wd - sw = q := ⟨_, rfl⟩
        have hddb : -9223372036854775807 ≤ dd ∧ dd ≤ 9223372036854775807 := by omega
        rw [hdd] at hR hov g1 ⊢
        have g2 : IntKind.i64.wrap (-dd) = -dd := IntWalk.i64_in _ (by omega)
        have g3 : IntKind.i64.wrap (min (-dd) 10000 - min sz 10000) = min (-dd) 10000 - min sz 10000 := IntWalk.i64_in _ (by omega)
        have g4 : IntKind.i64.wrap (100000000000 * (min (-dd) 10000 - min sz 10000)) = 100000000000 * (min (-dd) 10000 - min sz 10000) := IntWalk.i64_in _ (by omega)
        have HR := Lib.hid (And.intro hd hR)
        have HBY := Lib.hid hBY
        clear hBe hd hR h hBY y2Y HY HD HB HBB hdd hlb
        go_wp2_with fail
        go_returns
        exact Ret.mk (by rw [← HR.out.1, ← HR.out.2]; rfl) HBY.out
      · have hBe' := hBe
        obtain ⟨h, hBY, y2Y⟩ := HY.out
        have hcost := fun W (hb : Below Y.heap.size Y W) => cost_any (c := c) (wd := wd) (tl := tl) t hn W (h.next hb)
        have hpf := fun W (hb : Below Y.heap.size Y W) => pen_any (c := c) (wd := wd) (tl := tl) f hn W (h.next hb)
        have hpt := fun W (hb : Below Y.heap.size Y W) => pen_any (c := c) (wd := wd) (tl := tl) t hn W (h.next hb)
        obtain ⟨C, hC⟩ : ∃ C, costAt l t = C := ⟨_, rfl⟩
        obtain ⟨Tf, hTf⟩ : ∃ T, penAt l f = T := ⟨_, rfl⟩
        obtain ⟨Tt, hTt⟩ : ∃ T, penAt l t = T := ⟨_, rfl⟩
        simp only [hC] at hcost
        simp only [hTf] at hpf
        simp only [hTt] at hpt
        unfold pgv at hcost hpf hpt
        have HT := Lib.hid (show D = ⟨dem bn C (Tf && Tt), false, decide (bn ≤ tl)⟩ by rw [← HD.out, hBe, hC, hTf, hTt]; simp)
        have hr3 : Y.rangeAt w.heap.size 0 [.slice A n c, .int .i64 wd, .int .i64 tl] := range_blk y2Y
        have hpi : (Try.prog.info? 59).map (·.size) = some [Value.slice A n c, .int .i64 wd, .int .i64 tl].length := by
          show _ = some 3
          kernel_rfl
        let S : World → Prop := fun w' => Below Y.heap.size Y w'
        have r3 : ∀ w', S w' → w'.rangeAt w.heap.size 0 [.slice A n c, .int .i64 wd, .int .i64 tl] := fun w' h => bRange h ly2 hr3
        have q2 : ∀ w', S w' → w'.cell? ⟨w.heap.size, 2, none⟩ = some (.int .i64 tl) := fun w' h => (Below.cell (show Below Y.heap.size Y w' from h) (p := ⟨w.heap.size, 2, none⟩) ly2).trans c2
        have hS0 : S Y.drew := (Below.refl _ _).drew
        have HBY := Lib.hid hBY
        clear hBe hC hTf hTt h hBY y2Y HY HD hlb
        cases Tf
        · go_upto_region 8 with (fail)
          clear hr3 c0 c1 c2 k0 k1 k2
          refine wp_region_held (S := S) (by kernel_rfl) ?_
          change wpAnyH _ _ _ _ S _ _ _ Y.drew
          change At 0 _
          iterate 1 (first | (apply tkA; (case hi => (simp only [List.getElem?_toArray, List.getElem?_cons_zero, List.getElem?_cons_succ]; rfl)); (case hw => rfl); (case hy => (intro w' hSw; (try simp only [S] at hSw); go_simp; (try with_reducible rfl))); (case hs => kernel_rfl); (case hf => kernel_rfl); (case hr => kernel_rfl); (case hQ => exact fun _ _ _ h => h); (case hS => assumption); (try simp only [Act.put, List.setIfInBounds_toArray, List.set_cons_zero, List.set_cons_succ, Nat.reduceAdd])) | (apply skA; (case hi => (simp only [List.getElem?_toArray, List.getElem?_cons_zero, List.getElem?_cons_succ]; rfl)); (case hw => rfl); (case hs => kernel_rfl); (case hf => kernel_rfl); (case hr => kernel_rfl); (case hQ => exact fun _ _ _ h => h); (case hS => assumption); (try simp only [Act.put, List.setIfInBounds_toArray, List.set_cons_zero, List.set_cons_succ, Nat.reduceAdd])))
          change wpAnyH _ _ _ _ _ _ _ _ _
          refine wpAnyH_take (i := 1) (oi := ?oi_51) (v := ?v_51) ?ho_51 ?h1_51 ?h2_51 ?h3_51 ?hq_51 (Or.inl ⟨?hw_51, ?hy_51⟩) ?hs_51 ?rest_51; (case h2_51 => kernel_rfl); (case h3_51 => kernel_rfl); (case ho_51 => (simp only [List.getElem?_toArray, List.getElem?_cons_zero, List.getElem?_cons_succ]; rfl)); (case h1_51 => kernel_rfl); (case hq_51 => exact fun _ _ _ h => h); (case hw_51 => rfl); (case hy_51 => (intro w' hSw; refine exec_load_row (x := .tmp 3) ?_ ?_ (r3 w' hSw) Try.underlying59 ?_ hpi <;> rfl)); (case hs_51 => assumption); (try simp only [Act.put, List.setIfInBounds_toArray, List.set_cons_zero, List.set_cons_succ])
          refine wpAnyH_take (i := 2) (oi := ?oi_32) (v := ?v_32) ?ho_32 ?h1_32 ?h2_32 ?h3_32 ?hq_32 (Or.inl ⟨?hw_32, ?hy_32⟩) ?hs_32 ?rest_32; (case h2_32 => kernel_rfl); (case h3_32 => kernel_rfl); (case ho_32 => (simp only [List.getElem?_toArray, List.getElem?_cons_zero, List.getElem?_cons_succ]; rfl)); (case h1_32 => kernel_rfl); (case hq_32 => exact fun _ _ _ h => h); (case hw_32 => rfl); (case hy_32 => (intro w' hSw; (try simp only [S] at hSw); go_simp; (try with_reducible rfl))); (case hs_32 => assumption); (try simp only [Act.put, List.setIfInBounds_toArray, List.set_cons_zero, List.set_cons_succ])
          refine wpAnyH_take (i := 4) (oi := ?oi_52) (v := ?v_52) ?ho_52 ?h1_52 ?h2_52 ?h3_52 ?hq_52 (Or.inl ⟨?hw_52, ?hy_52⟩) ?hs_52 ?rest_52; (case h2_52 => kernel_rfl); (case h3_52 => kernel_rfl); (case ho_52 => (simp only [List.getElem?_toArray, List.getElem?_cons_zero, List.getElem?_cons_succ]; rfl)); (case h1_52 => kernel_rfl); (case hq_52 => exact fun _ _ _ h => h); (case hw_52 => rfl); (case hy_52 => (intro w' hSw; refine exec_load_row (x := .tmp 3) ?_ ?_ (r3 w' hSw) Try.underlying59 ?_ hpi <;> rfl)); (case hs_52 => assumption); (try simp only [Act.put, List.setIfInBounds_toArray, List.set_cons_zero, List.set_cons_succ])
          refine wpAnyH_take (i := 5) (oi := ?oi_33) (v := ?v_33) ?ho_33 ?h1_33 ?h2_33 ?h3_33 ?hq_33 (Or.inl ⟨?hw_33, ?hy_33⟩) ?hs_33 ?rest_33; (case h2_33 => kernel_rfl); (case h3_33 => kernel_rfl); (case ho_33 => (simp only [List.getElem?_toArray, List.getElem?_cons_zero, List.getElem?_cons_succ]; rfl)); (case h1_33 => kernel_rfl); (case hq_33 => exact fun _ _ _ h => h); (case hw_33 => rfl); (case hy_33 => (intro w' hSw; (try simp only [S] at hSw); go_simp; (try with_reducible rfl))); (case hs_33 => assumption); (try simp only [Act.put, List.setIfInBounds_toArray, List.set_cons_zero, List.set_cons_succ])
          change At 13 _
          iterate 4 (first | (apply tkA; (case hi => (simp only [List.getElem?_toArray, List.getElem?_cons_zero, List.getElem?_cons_succ]; rfl)); (case hw => rfl); (case hy => (intro w' hSw; have z2 := q2 w' hSw; (try simp only [S] at hSw); go_simp; (try with_reducible rfl))); (case hs => kernel_rfl); (case hf => kernel_rfl); (case hr => kernel_rfl); (case hQ => exact fun _ _ _ h => h); (case hS => assumption); (try simp only [Act.put, List.setIfInBounds_toArray, List.set_cons_zero, List.set_cons_succ, Nat.reduceAdd])) | (apply skA; (case hi => (simp only [List.getElem?_toArray, List.getElem?_cons_zero, List.getElem?_cons_succ]; rfl)); (case hw => rfl); (case hs => kernel_rfl); (case hf => kernel_rfl); (case hr => kernel_rfl); (case hQ => exact fun _ _ _ h => h); (case hS => assumption); (try simp only [Act.put, List.setIfInBounds_toArray, List.set_cons_zero, List.set_cons_succ, Nat.reduceAdd])))
          change wpAnyH _ _ _ _ _ _ _ _ _
          refine wpAnyH_ready (rs := [3]) (by kernel_rfl) (by simp) (AllReadyH.cons (o := ?oo3_70) ?hoo3_70 (fun K hK => ?steponly70) AllReadyH.nil); (case hoo3_70 => (simp only [List.getElem?_toArray, List.getElem?_cons_zero, List.getElem?_cons_succ]; rfl))
          go_simp
          refine Calls.mono (hcost _ hS0) ?_
          rintro e U1 ⟨rfl, hbU1⟩
          have hSU1 : S U1 := (show Below Y.heap.size Y Y.drew from hS0).trans (hbU1.mono (Below.size (show Below Y.heap.size Y Y.drew from hS0)))
          refine hK.out _ _ hSU1 (fun _ => ?_)
          clear hK K
          (try simp only [Act.put, List.setIfInBounds_toArray, List.set_cons_zero, List.set_cons_succ])
          refine wpAnyH_ready (rs := [6]) (by kernel_rfl) (by simp) (AllReadyH.cons (o := ?oo6_71) ?hoo6_71 (fun K hK => ?steponly71) AllReadyH.nil); (case hoo6_71 => (simp only [List.getElem?_toArray, List.getElem?_cons_zero, List.getElem?_cons_succ]; rfl))
          go_simp
          refine Calls.mono (hpf _ hSU1) ?_
          rintro e U2 ⟨rfl, hbU2⟩
          have hSU2 : S U2 := (show Below Y.heap.size Y U1 from hSU1).trans (hbU2.mono (Below.size (show Below Y.heap.size Y U1 from hSU1)))
          refine hK.out _ _ hSU2 (fun _ => ?_)
          clear hK K
          (try simp only [Act.put, List.setIfInBounds_toArray, List.set_cons_zero, List.set_cons_succ])
          refine wpAnyH_take (i := 7) (oi := ?oi_34) (v := ?v_34) ?ho_34 ?h1_34 ?h2_34 ?h3_34 ?hq_34 (Or.inl ⟨?hw_34, ?hy_34⟩) ?hs_34 ?rest_34; (case h2_34 => kernel_rfl); (case h3_34 => kernel_rfl); (case ho_34 => (simp only [List.getElem?_toArray, List.getElem?_cons_zero, List.getElem?_cons_succ]; rfl)); (case h1_34 => kernel_rfl); (case hq_34 => exact fun _ _ _ h => h); (case hw_34 => rfl); (case hy_34 => (intro w' hSw; (try simp only [S] at hSw); go_simp; (try with_reducible rfl))); (case hs_34 => assumption); (try simp only [Act.put, List.setIfInBounds_toArray, List.set_cons_zero, List.set_cons_succ])
          refine wpAnyH_take (i := 8) (oi := ?oi_11) (v := undef) ?ho_11 ?h1_11 ?h2_11 ?h3_11 ?hq_11 (Or.inr ⟨?hw_11, ?hy_11⟩) ?hs_11 ?rest_11; (case h2_11 => kernel_rfl); (case h3_11 => kernel_rfl); (case ho_11 => (simp only [List.getElem?_toArray, List.getElem?_cons_zero, List.getElem?_cons_succ]; rfl)); (case h1_11 => kernel_rfl); (case hq_11 => exact fun _ _ _ h => h); (case hw_11 => rfl); (case hy_11 => rfl); (case hs_11 => assumption); (try simp only [Act.put, List.setIfInBounds_toArray, List.set_cons_zero, List.set_cons_succ])
          refine wpAnyH_take (i := 9) (oi := ?oi_12) (v := undef) ?ho_12 ?h1_12 ?h2_12 ?h3_12 ?hq_12 (Or.inr ⟨?hw_12, ?hy_12⟩) ?hs_12 ?rest_12; (case h2_12 => kernel_rfl); (case h3_12 => kernel_rfl); (case ho_12 => (simp only [List.getElem?_toArray, List.getElem?_cons_zero, List.getElem?_cons_succ]; rfl)); (case h1_12 => kernel_rfl); (case hq_12 => exact fun _ _ _ h => h); (case hw_12 => rfl); (case hy_12 => rfl); (case hs_12 => assumption); (try simp only [Act.put, List.setIfInBounds_toArray, List.set_cons_zero, List.set_cons_succ])
          refine wpAnyH_take (i := 10) (oi := ?oi_13) (v := undef) ?ho_13 ?h1_13 ?h2_13 ?h3_13 ?hq_13 (Or.inr ⟨?hw_13, ?hy_13⟩) ?hs_13 ?rest_13; (case h2_13 => kernel_rfl); (case h3_13 => kernel_rfl); (case ho_13 => (simp only [List.getElem?_toArray, List.getElem?_cons_zero, List.getElem?_cons_succ]; rfl)); (case h1_13 => kernel_rfl); (case hq_13 => exact fun _ _ _ h => h); (case hw_13 => rfl); (case hy_13 => rfl); (case hs_13 => assumption); (try simp only [Act.put, List.setIfInBounds_toArray, List.set_cons_zero, List.set_cons_succ])
          refine wpAnyH_take (i := 11) (oi := ?oi_35) (v := ?v_35) ?ho_35 ?h1_35 ?h2_35 ?h3_35 ?hq_35 (Or.inl ⟨?hw_35, ?hy_35⟩) ?hs_35 ?rest_35; (case h2_35 => kernel_rfl); (case h3_35 => kernel_rfl); (case ho_35 => (simp only [List.getElem?_toArray, List.getElem?_cons_zero, List.getElem?_cons_succ]; rfl)); (case h1_35 => kernel_rfl); (case hq_35 => exact fun _ _ _ h => h); (case hw_35 => rfl); (case hy_35 => (intro w' hSw; (try simp only [S] at hSw); go_simp; (try with_reducible rfl))); (case hs_35 => assumption); (try simp only [Act.put, List.setIfInBounds_toArray, List.set_cons_zero, List.set_cons_succ])
          refine wpAnyH_ready (rs := [12]) (by kernel_rfl) (by simp) (AllReadyH.cons (o := ?oo12_72) ?hoo12_72 (fun K hK => ?steponly72) AllReadyH.nil); (case hoo12_72 => (simp only [List.getElem?_toArray, List.getElem?_cons_zero, List.getElem?_cons_succ]; rfl))
          go_simp
          refine Calls.mono (dem_any bn C false _) ?_
          rintro e U4 ⟨rfl, hbU4⟩
          have hSU4 : S U4 := by rw [← hbU4]; exact hSU2
          refine hK.out _ _ hSU4 (fun _ => ?_)
          clear hK K
          (try simp only [Act.put, List.setIfInBounds_toArray, List.set_cons_zero, List.set_cons_succ])
          change At 17 _
          iterate 3 (first | (apply tkA; (case hi => (simp only [List.getElem?_toArray, List.getElem?_cons_zero, List.getElem?_cons_succ]; rfl)); (case hw => rfl); (case hy => (intro w' hSw; (try simp only [S] at hSw); go_simp; (try with_reducible rfl))); (case hs => kernel_rfl); (case hf => kernel_rfl); (case hr => kernel_rfl); (case hQ => exact fun _ _ _ h => h); (case hS => assumption); (try simp only [Act.put, List.setIfInBounds_toArray, List.set_cons_zero, List.set_cons_succ, Nat.reduceAdd])) | (apply skA; (case hi => (simp only [List.getElem?_toArray, List.getElem?_cons_zero, List.getElem?_cons_succ]; rfl)); (case hw => rfl); (case hs => kernel_rfl); (case hf => kernel_rfl); (case hr => kernel_rfl); (case hQ => exact fun _ _ _ h => h); (case hS => assumption); (try simp only [Act.put, List.setIfInBounds_toArray, List.set_cons_zero, List.set_cons_succ, Nat.reduceAdd])))
          change wpAnyH _ _ _ _ _ _ _ _ _
          refine wpAnyH_done (by kernel_rfl) ?_ _
          have HE := Lib.hid (show Below Y.heap.size Y _ from hSU4)
          clear hS0 hSU1 hSU2 hSU4 r3 q2 hcost hpf hpt
          go_wp2_with fail
          go_returns
          exact Ret.mk (by rw [HT.out]; rfl) (bNext HBY.out HE.out)
        · go_upto_region 8 with (fail)
          clear hr3 c0 c1 c2 k0 k1 k2
          refine wp_region_held (S := S) (by kernel_rfl) ?_
          change wpAnyH _ _ _ _ S _ _ _ Y.drew
          change At 0 _
          iterate 1 (first | (apply tkA; (case hi => (simp only [List.getElem?_toArray, List.getElem?_cons_zero, List.getElem?_cons_succ]; rfl)); (case hw => rfl); (case hy => (intro w' hSw; (try simp only [S] at hSw); go_simp; (try with_reducible rfl))); (case hs => kernel_rfl); (case hf => kernel_rfl); (case hr => kernel_rfl); (case hQ => exact fun _ _ _ h => h); (case hS => assumption); (try simp only [Act.put, List.setIfInBounds_toArray, List.set_cons_zero, List.set_cons_succ, Nat.reduceAdd])) | (apply skA; (case hi => (simp only [List.getElem?_toArray, List.getElem?_cons_zero, List.getElem?_cons_succ]; rfl)); (case hw => rfl); (case hs => kernel_rfl); (case hf => kernel_rfl); (case hr => kernel_rfl); (case hQ => exact fun _ _ _ h => h); (case hS => assumption); (try simp only [Act.put, List.setIfInBounds_toArray, List.set_cons_zero, List.set_cons_succ, Nat.reduceAdd])))
          change wpAnyH _ _ _ _ _ _ _ _ _
          refine wpAnyH_take (i := 1) (oi := ?oi_53) (v := ?v_53) ?ho_53 ?h1_53 ?h2_53 ?h3_53 ?hq_53 (Or.inl ⟨?hw_53, ?hy_53⟩) ?hs_53 ?rest_53; (case h2_53 => kernel_rfl); (case h3_53 => kernel_rfl); (case ho_53 => (simp only [List.getElem?_toArray, List.getElem?_cons_zero, List.getElem?_cons_succ]; rfl)); (case h1_53 => kernel_rfl); (case hq_53 => exact fun _ _ _ h => h); (case hw_53 => rfl); (case hy_53 => (intro w' hSw; refine exec_load_row (x := .tmp 3) ?_ ?_ (r3 w' hSw) Try.underlying59 ?_ hpi <;> rfl)); (case hs_53 => assumption); (try simp only [Act.put, List.setIfInBounds_toArray, List.set_cons_zero, List.set_cons_succ])
          refine wpAnyH_take (i := 2) (oi := ?oi_36) (v := ?v_36) ?ho_36 ?h1_36 ?h2_36 ?h3_36 ?hq_36 (Or.inl ⟨?hw_36, ?hy_36⟩) ?hs_36 ?rest_36; (case h2_36 => kernel_rfl); (case h3_36 => kernel_rfl); (case ho_36 => (simp only [List.getElem?_toArray, List.getElem?_cons_zero, List.getElem?_cons_succ]; rfl)); (case h1_36 => kernel_rfl); (case hq_36 => exact fun _ _ _ h => h); (case hw_36 => rfl); (case hy_36 => (intro w' hSw; (try simp only [S] at hSw); go_simp; (try with_reducible rfl))); (case hs_36 => assumption); (try simp only [Act.put, List.setIfInBounds_toArray, List.set_cons_zero, List.set_cons_succ])
          refine wpAnyH_take (i := 4) (oi := ?oi_54) (v := ?v_54) ?ho_54 ?h1_54 ?h2_54 ?h3_54 ?hq_54 (Or.inl ⟨?hw_54, ?hy_54⟩) ?hs_54 ?rest_54; (case h2_54 => kernel_rfl); (case h3_54 => kernel_rfl); (case ho_54 => (simp only [List.getElem?_toArray, List.getElem?_cons_zero, List.getElem?_cons_succ]; rfl)); (case h1_54 => kernel_rfl); (case hq_54 => exact fun _ _ _ h => h); (case hw_54 => rfl); (case hy_54 => (intro w' hSw; refine exec_load_row (x := .tmp 3) ?_ ?_ (r3 w' hSw) Try.underlying59 ?_ hpi <;> rfl)); (case hs_54 => assumption); (try simp only [Act.put, List.setIfInBounds_toArray, List.set_cons_zero, List.set_cons_succ])
          refine wpAnyH_take (i := 5) (oi := ?oi_37) (v := ?v_37) ?ho_37 ?h1_37 ?h2_37 ?h3_37 ?hq_37 (Or.inl ⟨?hw_37, ?hy_37⟩) ?hs_37 ?rest_37; (case h2_37 => kernel_rfl); (case h3_37 => kernel_rfl); (case ho_37 => (simp only [List.getElem?_toArray, List.getElem?_cons_zero, List.getElem?_cons_succ]; rfl)); (case h1_37 => kernel_rfl); (case hq_37 => exact fun _ _ _ h => h); (case hw_37 => rfl); (case hy_37 => (intro w' hSw; (try simp only [S] at hSw); go_simp; (try with_reducible rfl))); (case hs_37 => assumption); (try simp only [Act.put, List.setIfInBounds_toArray, List.set_cons_zero, List.set_cons_succ])
          change At 13 _
          iterate 4 (first | (apply tkA; (case hi => (simp only [List.getElem?_toArray, List.getElem?_cons_zero, List.getElem?_cons_succ]; rfl)); (case hw => rfl); (case hy => (intro w' hSw; have z2 := q2 w' hSw; (try simp only [S] at hSw); go_simp; (try with_reducible rfl))); (case hs => kernel_rfl); (case hf => kernel_rfl); (case hr => kernel_rfl); (case hQ => exact fun _ _ _ h => h); (case hS => assumption); (try simp only [Act.put, List.setIfInBounds_toArray, List.set_cons_zero, List.set_cons_succ, Nat.reduceAdd])) | (apply skA; (case hi => (simp only [List.getElem?_toArray, List.getElem?_cons_zero, List.getElem?_cons_succ]; rfl)); (case hw => rfl); (case hs => kernel_rfl); (case hf => kernel_rfl); (case hr => kernel_rfl); (case hQ => exact fun _ _ _ h => h); (case hS => assumption); (try simp only [Act.put, List.setIfInBounds_toArray, List.set_cons_zero, List.set_cons_succ, Nat.reduceAdd])))
          change wpAnyH _ _ _ _ _ _ _ _ _
          refine wpAnyH_ready (rs := [3]) (by kernel_rfl) (by simp) (AllReadyH.cons (o := ?oo3_73) ?hoo3_73 (fun K hK => ?steponly73) AllReadyH.nil); (case hoo3_73 => (simp only [List.getElem?_toArray, List.getElem?_cons_zero, List.getElem?_cons_succ]; rfl))
          go_simp
          refine Calls.mono (hcost _ hS0) ?_
          rintro e U1 ⟨rfl, hbU1⟩
          have hSU1 : S U1 := (show Below Y.heap.size Y Y.drew from hS0).trans (hbU1.mono (Below.size (show Below Y.heap.size Y Y.drew from hS0)))
          refine hK.out _ _ hSU1 (fun _ => ?_)
          clear hK K
          (try simp only [Act.put, List.setIfInBounds_toArray, List.set_cons_zero, List.set_cons_succ])
          refine wpAnyH_ready (rs := [6]) (by kernel_rfl) (by simp) (AllReadyH.cons (o := ?oo6_74) ?hoo6_74 (fun K hK => ?steponly74) AllReadyH.nil); (case hoo6_74 => (simp only [List.getElem?_toArray, List.getElem?_cons_zero, List.getElem?_cons_succ]; rfl))
          go_simp
          refine Calls.mono (hpf _ hSU1) ?_
          rintro e U2 ⟨rfl, hbU2⟩
          have hSU2 : S U2 := (show Below Y.heap.size Y U1 from hSU1).trans (hbU2.mono (Below.size (show Below Y.heap.size Y U1 from hSU1)))
          refine hK.out _ _ hSU2 (fun _ => ?_)
          clear hK K
          (try simp only [Act.put, List.setIfInBounds_toArray, List.set_cons_zero, List.set_cons_succ])
          refine wpAnyH_take (i := 7) (oi := ?oi_38) (v := ?v_38) ?ho_38 ?h1_38 ?h2_38 ?h3_38 ?hq_38 (Or.inl ⟨?hw_38, ?hy_38⟩) ?hs_38 ?rest_38; (case h2_38 => kernel_rfl); (case h3_38 => kernel_rfl); (case ho_38 => (simp only [List.getElem?_toArray, List.getElem?_cons_zero, List.getElem?_cons_succ]; rfl)); (case h1_38 => kernel_rfl); (case hq_38 => exact fun _ _ _ h => h); (case hw_38 => rfl); (case hy_38 => (intro w' hSw; (try simp only [S] at hSw); go_simp; (try with_reducible rfl))); (case hs_38 => assumption); (try simp only [Act.put, List.setIfInBounds_toArray, List.set_cons_zero, List.set_cons_succ])
          refine wpAnyH_take (i := 8) (oi := ?oi_55) (v := ?v_55) ?ho_55 ?h1_55 ?h2_55 ?h3_55 ?hq_55 (Or.inl ⟨?hw_55, ?hy_55⟩) ?hs_55 ?rest_55; (case h2_55 => kernel_rfl); (case h3_55 => kernel_rfl); (case ho_55 => (simp only [List.getElem?_toArray, List.getElem?_cons_zero, List.getElem?_cons_succ]; rfl)); (case h1_55 => kernel_rfl); (case hq_55 => exact fun _ _ _ h => h); (case hw_55 => rfl); (case hy_55 => (intro w' hSw; refine exec_load_row (x := .tmp 3) ?_ ?_ (r3 w' hSw) Try.underlying59 ?_ hpi <;> rfl)); (case hs_55 => assumption); (try simp only [Act.put, List.setIfInBounds_toArray, List.set_cons_zero, List.set_cons_succ])
          refine wpAnyH_take (i := 9) (oi := ?oi_39) (v := ?v_39) ?ho_39 ?h1_39 ?h2_39 ?h3_39 ?hq_39 (Or.inl ⟨?hw_39, ?hy_39⟩) ?hs_39 ?rest_39; (case h2_39 => kernel_rfl); (case h3_39 => kernel_rfl); (case ho_39 => (simp only [List.getElem?_toArray, List.getElem?_cons_zero, List.getElem?_cons_succ]; rfl)); (case h1_39 => kernel_rfl); (case hq_39 => exact fun _ _ _ h => h); (case hw_39 => rfl); (case hy_39 => (intro w' hSw; (try simp only [S] at hSw); go_simp; (try with_reducible rfl))); (case hs_39 => assumption); (try simp only [Act.put, List.setIfInBounds_toArray, List.set_cons_zero, List.set_cons_succ])
          refine wpAnyH_ready (rs := [10]) (by kernel_rfl) (by simp) (AllReadyH.cons (o := ?oo10_75) ?hoo10_75 (fun K hK => ?steponly75) AllReadyH.nil); (case hoo10_75 => (simp only [List.getElem?_toArray, List.getElem?_cons_zero, List.getElem?_cons_succ]; rfl))
          go_simp
          refine Calls.mono (hpt _ hSU2) ?_
          rintro e U3 ⟨rfl, hbU3⟩
          have hSU3 : S U3 := (show Below Y.heap.size Y U2 from hSU2).trans (hbU3.mono (Below.size (show Below Y.heap.size Y U2 from hSU2)))
          refine hK.out _ _ hSU3 (fun _ => ?_)
          clear hK K
          (try simp only [Act.put, List.setIfInBounds_toArray, List.set_cons_zero, List.set_cons_succ])
          refine wpAnyH_take (i := 11) (oi := ?oi_40) (v := ?v_40) ?ho_40 ?h1_40 ?h2_40 ?h3_40 ?hq_40 (Or.inl ⟨?hw_40, ?hy_40⟩) ?hs_40 ?rest_40; (case h2_40 => kernel_rfl); (case h3_40 => kernel_rfl); (case ho_40 => (simp only [List.getElem?_toArray, List.getElem?_cons_zero, List.getElem?_cons_succ]; rfl)); (case h1_40 => kernel_rfl); (case hq_40 => exact fun _ _ _ h => h); (case hw_40 => rfl); (case hy_40 => (intro w' hSw; (try simp only [S] at hSw); go_simp; (try with_reducible rfl))); (case hs_40 => assumption); (try simp only [Act.put, List.setIfInBounds_toArray, List.set_cons_zero, List.set_cons_succ])
          refine wpAnyH_ready (rs := [12]) (by kernel_rfl) (by simp) (AllReadyH.cons (o := ?oo12_76) ?hoo12_76 (fun K hK => ?steponly76) AllReadyH.nil); (case hoo12_76 => (simp only [List.getElem?_toArray, List.getElem?_cons_zero, List.getElem?_cons_succ]; rfl))
          go_simp
          refine Calls.mono (dem_any bn C Tt _) ?_
          rintro e U4 ⟨rfl, hbU4⟩
          have hSU4 : S U4 := by rw [← hbU4]; exact hSU3
          refine hK.out _ _ hSU4 (fun _ => ?_)
          clear hK K
          (try simp only [Act.put, List.setIfInBounds_toArray, List.set_cons_zero, List.set_cons_succ])
          change At 17 _
          iterate 3 (first | (apply tkA; (case hi => (simp only [List.getElem?_toArray, List.getElem?_cons_zero, List.getElem?_cons_succ]; rfl)); (case hw => rfl); (case hy => (intro w' hSw; (try simp only [S] at hSw); go_simp; (try with_reducible rfl))); (case hs => kernel_rfl); (case hf => kernel_rfl); (case hr => kernel_rfl); (case hQ => exact fun _ _ _ h => h); (case hS => assumption); (try simp only [Act.put, List.setIfInBounds_toArray, List.set_cons_zero, List.set_cons_succ, Nat.reduceAdd])) | (apply skA; (case hi => (simp only [List.getElem?_toArray, List.getElem?_cons_zero, List.getElem?_cons_succ]; rfl)); (case hw => rfl); (case hs => kernel_rfl); (case hf => kernel_rfl); (case hr => kernel_rfl); (case hQ => exact fun _ _ _ h => h); (case hS => assumption); (try simp only [Act.put, List.setIfInBounds_toArray, List.set_cons_zero, List.set_cons_succ, Nat.reduceAdd])))
          change wpAnyH _ _ _ _ _ _ _ _ _
          refine wpAnyH_done (by kernel_rfl) ?_ _
          have HE := Lib.hid (show Below Y.heap.size Y _ from hSU4)
          clear hS0 hSU1 hSU2 hSU3 hSU4 r3 q2 hcost hpf hpt
          go_wp2_with fail
          go_returns
          exact Ret.mk (by rw [HT.out]; rfl) (bNext HBY.out HE.out)
end Go.Proofs.Ytnojikbecohhfaa
