/- The walk over the reference's DecodeRev. -/
import Derived.Test.YtjfkaebikmnnaaaRevDec
namespace Go.Proofs.Ytjfkaebikmnnaaa
set_option linter.unusedSimpArgs false
set_option linter.unusedVariables false
open Go.RowKit Go.Sort

def rv3 (a b c : Int) : RV := ⟨a, b, List.replicate 32 0, List.replicate 32 0, List.replicate 32 0, c⟩
theorem built_rv3 (a b c : Int) : Try.prog.built 43 [(0, .int .i64 a), (1, .int .i64 b), (5, .int .i64 c)] = some (rv3 a b c).cells.toArray := by kernel_rfl
theorem rv3_len (a b c : Int) : (rv3 a b c).cells.length = 99 := by simp [RV.cells, rv3, bvs_len]
theorem rv_fill {r : RV} (h : r.Ok) : setMany (setMany (setMany (rv3 r.num r.par r.pag).cells.toArray 2 (bvs r.src)) 34 (bvs r.sty)) 66 (bvs r.tre) = r.cells.toArray := by
  obtain ⟨num, par, src, sty, tre, pag⟩ := r
  have h1 : (bvs src).length = 32 := by rw [bvs_len]; exact h.src
  have h2 : (bvs sty).length = 32 := by rw [bvs_len]; exact h.sty
  have h3 : (bvs tre).length = 32 := by rw [bvs_len]; exact h.tre
  obtain ⟨Z, hZ⟩ : ∃ Z, bvs (List.replicate 32 0) = Z := ⟨_, rfl⟩
  have hz : Z.length = 32 := by rw [← hZ, bvs_len]; simp
  have e0 : (rv3 num par pag).cells = .int .i64 num :: .int .i64 par :: (Z ++ (Z ++ (Z ++ [.int .i64 pag]))) := by rw [← hZ]; rfl
  simp only at *
  have e4 := setMany_at (l := .int .i64 num :: .int .i64 par :: (Z ++ (Z ++ (Z ++ [.int .i64 pag])))) (x := [.int .i64 num, .int .i64 par]) (y := Z) (z := Z ++ (Z ++ [.int .i64 pag])) (v := bvs src) (o := 2) (by simp) rfl (by omega)
  have e5 := setMany_at (l := .int .i64 num :: .int .i64 par :: (bvs src ++ (Z ++ (Z ++ [.int .i64 pag])))) (x := .int .i64 num :: .int .i64 par :: bvs src) (y := Z) (z := Z ++ [.int .i64 pag]) (v := bvs sty) (o := 34) (by simp) (by simp [h1]) (by omega)
  have e6 := setMany_at (l := .int .i64 num :: .int .i64 par :: (bvs src ++ (bvs sty ++ (Z ++ [.int .i64 pag])))) (x := .int .i64 num :: .int .i64 par :: (bvs src ++ bvs sty)) (y := Z) (z := [.int .i64 pag]) (v := bvs tre) (o := 66) (by simp) (by simp [h1, h2]) (by omega)
  simp only [List.cons_append, List.nil_append, List.append_assoc] at e4 e5 e6
  rw [e0, e4, e5, e6]
  rfl

set_option maxHeartbeats 4000000 in
set_option maxRecDepth 100000 in
theorem rdec_short {A : Option Addr} {n c : Nat} {l : List UInt8} (hn : n = l.length) (h : n ≠ 101) (w : World) : Calls Try.prog 23 #[.slice A n c] w (RDec w l) := by
  have hD : Hid ((Value.tuple #[rvv (rvOf l), .int .i64 (erF (isR l))]) = .tuple #[.agg rv0.cells.toArray, .int .i64 11]) := Lib.hid (by
    have : isR l = false := by unfold isR; rw [decide_eq_false (by omega)]; rfl
    unfold rvOf rvv erF
    rw [this]; rfl)
  have h1 : (n : Int) ≠ 101 := by omega
  have hin : (Try.prog.info? 43).map (·.size) = some rv0.cells.toArray.size := rv_info rv0_ok
  have hz := rvZ
  have hb0 := built_rv0
  have hone := one_rv rv0
  obtain ⟨z, hzz⟩ : ∃ z, rv0.cells = z := ⟨_, rfl⟩
  rw [hzz] at hD hin hz hb0 hone
  clear hzz hn
  go_enter Try.func23, Try.ntmps23
  go_upto_region 1 with (first | (refine wpList_new rfl hz rfl ?_) | fail)
  obtain ⟨W, hW⟩ : ∃ W, w.alloc (.cells z.toArray 43) = W := ⟨_, rfl⟩
  try rw [hW]
  have a2 : W.heap[w.heap.size]? = some (.cells z.toArray 43) := by rw [← hW]; exact heap_alloc_new _ _
  have hB : Below w.heap.size w W := by rw [← hW]; exact (Below.refl _ _).alloc (Nat.le_refl _) _
  clear hW hz
  obtain ⟨V, hV⟩ : ∃ V, W.setRow w.heap.size z.toArray = V := ⟨_, rfl⟩
  have v2 : V.heap[w.heap.size]? = some (.cells z.toArray 43) := by rw [← hV]; exact setRow_heap _ _ _ _ _ _ a2
  have hBV : Below w.heap.size w V := by rw [← hV]; exact bSetRow hB (Nat.le_refl _) _
  have hld := run_loadVar_row (P := Try.prog) V _ _ 43 _ _ _ v2 Try.underlying43 rfl hin
  have HB := Lib.hid hBV
  clear hBV hB v2
  go_wp2_with (first
    | (refine wpList_built rfl 43 #[] rfl (cs := z.toArray) (by simp only [List.map_toArray, List.map_nil]; exact hb0) ?_)
    | (refine wpList_store_row rfl 43 (.tmp 2) (.tmp 10) rfl _ z.toArray rfl rfl _ z.toArray a2 hin rfl (all_oneCell_toArray hone) ?_)
    | fail)
  try rw [hV]
  refine bodyPost_ret (by simp [results, Try.results23, Act.put, asAddr, Result.andThen, hld]; try rfl) rfl ?_
  exact Ret.mk hD.out.symm HB.out

set_option maxHeartbeats 8000000 in
set_option maxRecDepth 100000 in
theorem rdec_full {A : Option Addr} {c B : Nat} {l : List UInt8} (hl : l.length = 101) (w : World) (hs : Sl w B 1 A 101 (bvs l)) (hB : B ≤ w.heap.size) (hc : 101 ≤ c) : Calls Try.prog 23 #[.slice A 101 c] w (RDec w l) := by
  obtain ⟨b, o, rfl, hbB, hr⟩ := hs.at_ (by omega)
  have hR : Hid (isR l = (decR l).good) := Lib.hid (by unfold isR; rw [decide_eq_true hl]; rfl)
  have hV : Hid (rvOf l = if isR l then decR l else rv0) := Lib.hid rfl
  have hok := decR_ok hl
  have hfill := rv_fill hok
  have e1 : (((at8 l 0).toNat : Nat) : Int) * 256 + (((at8 l 1).toNat : Nat) : Int) = (decR l).num := by
    show _ = (((at8 l 0).toNat * 256 + (at8 l 1).toNat : Nat) : Int)
    omega
  have e2 : (((at8 l 2).toNat : Nat) : Int) * 256 + (((at8 l 3).toNat : Nat) : Int) = (decR l).par := by
    show _ = (((at8 l 2).toNat * 256 + (at8 l 3).toNat : Nat) : Int)
    omega
  have e3 : (((at8 l 4).toNat : Nat) : Int) = (decR l).pag := rfl
  have e4 : (l.drop 5).take 32 = (decR l).src := rfl
  have e5 : (l.drop 37).take 32 = (decR l).sty := rfl
  have e6 : (l.drop 69).take 32 = (decR l).tre := rfl
  have k0 := hs.cellAt rfl (i := 0) (by omega)
  have k1 := hs.cellAt rfl (i := 1) (by omega)
  have k2 := hs.cellAt rfl (i := 2) (by omega)
  have k3 := hs.cellAt rfl (i := 3) (by omega)
  have k4 := hs.cellAt rfl (i := 4) (by omega)
  rw [Nat.add_zero] at k0
  have r1 := range_cut hr 5 32
  have r2 := range_cut hr 37 32
  have r3 := range_cut hr 69 32
  rw [show ((bvs l).drop 5).take 32 = bvs ((l.drop 5).take 32) from by simp [bvs, List.map_take, List.map_drop], e4] at r1
  rw [show ((bvs l).drop 37).take 32 = bvs ((l.drop 37).take 32) from by simp [bvs, List.map_take, List.map_drop], e5] at r2
  rw [show ((bvs l).drop 69).take 32 = bvs ((l.drop 69).take 32) from by simp [bvs, List.map_take, List.map_drop], e6] at r3
  have l0 := (at8 l 0).toNat_lt
  have l1 := (at8 l 1).toNat_lt
  have l2 := (at8 l 2).toNat_lt
  have l3 := (at8 l 3).toNat_lt
  have l4 := (at8 l 4).toNat_lt
  have hsl := hok.src
  have htl := hok.sty
  have hul := hok.tre
  have hin : (Try.prog.info? 43).map (·.size) = some rv0.cells.toArray.size := rv_info rv0_ok
  have hii := rv_info hok
  have hsz := rv_sizes rv0_ok hok
  have hz := rvZ
  have hb0 := built_rv0
  have hone := one_rv rv0
  have hone2 := one_rv (decR l)
  have hrev := hok
  unfold RDec rvv
  clear e4 e5 e6 hs
  generalize decR l = r at *
  generalize (at8 l 0).toNat = X0 at *
  generalize (at8 l 1).toNat = X1 at *
  generalize (at8 l 2).toNat = X2 at *
  generalize (at8 l 3).toNat = X3 at *
  generalize (at8 l 4).toNat = X4 at *
  have w0 : IntKind.i64.wrap (X0 : Int) = X0 := wrap_small _ (by omega) (by omega)
  have w1 : IntKind.i64.wrap (X1 : Int) = X1 := wrap_small _ (by omega) (by omega)
  have w2 : IntKind.i64.wrap (X2 : Int) = X2 := wrap_small _ (by omega) (by omega)
  have w3 : IntKind.i64.wrap (X3 : Int) = X3 := wrap_small _ (by omega) (by omega)
  have w4 : IntKind.i64.wrap (X4 : Int) = X4 := wrap_small _ (by omega) (by omega)
  have w5 : IntKind.i64.wrap ((X0 : Int) * 256) = X0 * 256 := wrap_small _ (by omega) (by omega)
  have w6 : IntKind.i64.wrap ((X2 : Int) * 256) = X2 * 256 := wrap_small _ (by omega) (by omega)
  have w7 : IntKind.i64.wrap ((X0 : Int) * 256 + X1) = r.num := by rw [← e1]; exact wrap_small _ (by omega) (by omega)
  have w8 : IntKind.i64.wrap ((X2 : Int) * 256 + X3) = r.par := by rw [← e2]; exact wrap_small _ (by omega) (by omega)
  have hbt := built_rv3 r.num r.par r.pag
  have hii3 : (Try.prog.info? 43).map (·.size) = some (rv3 r.num r.par r.pag).cells.toArray.size := by rw [List.size_toArray, rv3_len]; exact rv_size
  have hsz3 : rv0.cells.toArray.size = (rv3 r.num r.par r.pag).cells.toArray.size := by rw [List.size_toArray, List.size_toArray, rv3_len, rv0_ok.len]
  have hone3 := one_rv (rv3 r.num r.par r.pag)
  obtain ⟨c3, hc3⟩ : ∃ c, (rv3 r.num r.par r.pag).cells.toArray = c := ⟨_, rfl⟩
  have h3s : c3.size = 99 := by rw [← hc3, List.size_toArray, rv3_len]
  have hone3' : c3.all (·.oneCell') = true := by rw [← hc3]; exact all_oneCell_toArray hone3
  rw [hc3] at hbt hii3 hsz3 hfill
  rw [← e3] at hbt
  have HF := Lib.hid hfill
  clear hone3 hc3 hfill e1 e2 e3
  obtain ⟨z, hzz⟩ : ∃ z, rv0.cells = z := ⟨_, rfl⟩
  have HZ := Lib.hid hzz
  rw [hzz] at hin hz hb0 hone hsz hsz3
  clear hzz hbB
  have hbw : b < w.heap.size := range_lt hr (by intro e; have := congrArg List.length e; rw [bvs_len, hl] at this; simp at this)
  have c5 : ¬ c = 5 := by omega
  have c37 : ¬ c = 37 := by omega
  have c69 : ¬ c = 69 := by omega
  have i37 : (37 : Int) ≤ (c : Int) := by omega
  have i69 : (69 : Int) ≤ (c : Int) := by omega
  have i101 : (101 : Int) ≤ (c : Int) := by omega
  go_enter Try.func23, Try.ntmps23
  go_upto_region 3 with (first | (refine wpList_new rfl hz rfl ?_) | fail)
  obtain ⟨W, hW⟩ : ∃ W, w.alloc (.cells z.toArray 43) = W := ⟨_, rfl⟩
  try rw [hW]
  have a2 : W.heap[w.heap.size]? = some (.cells z.toArray 43) := by rw [← hW]; exact heap_alloc_new _ _
  have hBW : Below w.heap.size w W := by rw [← hW]; exact (Below.refl _ _).alloc (Nat.le_refl _) _
  have hzW : w.heap.size < W.heap.size := by rw [← hW]; simp
  clear hW
  replace k0 := (hBW.cell (p := ⟨b, o, none⟩) hbw).trans k0
  replace k1 := (hBW.cell (p := ⟨b, o + 1, none⟩) hbw).trans k1
  replace k2 := (hBW.cell (p := ⟨b, o + 2, none⟩) hbw).trans k2
  replace k3 := (hBW.cell (p := ⟨b, o + 3, none⟩) hbw).trans k3
  replace k4 := (hBW.cell (p := ⟨b, o + 4, none⟩) hbw).trans k4
  replace r1 := bRange hBW hbw r1
  replace r2 := bRange hBW hbw r2
  replace r3 := bRange hBW hbw r3
  let S : World → Prop := fun w' => w'.cell? ⟨b, o, none⟩ = some (.int .u8 (X0 : Int)) ∧ w'.cell? ⟨b, o + 1, none⟩ = some (.int .u8 (X1 : Int)) ∧ w'.cell? ⟨b, o + 2, none⟩ = some (.int .u8 (X2 : Int)) ∧ w'.cell? ⟨b, o + 3, none⟩ = some (.int .u8 (X3 : Int)) ∧ w'.cell? ⟨b, o + 4, none⟩ = some (.int .u8 (X4 : Int))
  have hSS : ∀ w', Below W.heap.size W w' → S w' := fun w' h => ⟨(h.cell (p := ⟨b, o, none⟩) (by show b < _; omega)).trans k0, (h.cell (p := ⟨b, o + 1, none⟩) (by show b < _; omega)).trans k1, (h.cell (p := ⟨b, o + 2, none⟩) (by show b < _; omega)).trans k2, (h.cell (p := ⟨b, o + 3, none⟩) (by show b < _; omega)).trans k3, (h.cell (p := ⟨b, o + 4, none⟩) (by show b < _; omega)).trans k4⟩
  have hS0 : S W.drew := hSS _ (Below.refl _ _).drew
  clear k0 k1 k2 k3 k4
  refine wp_region_held (S := S) (by kernel_rfl) ?_
  change wpAnyH _ _ _ _ S _ _ _ W.drew
  refine wpAnyH_take (i := 0) (oi := ?oi_1) (v := ?v_1) ?ho_1 ?h1_1 ?h2_1 ?h3_1 ?hq_1 (Or.inl ⟨?hw_1, ?hy_1⟩) ?hs_1 ?rest_1; (case h2_1 => kernel_rfl); (case h3_1 => kernel_rfl); (case ho_1 => (simp only [List.getElem?_toArray, List.getElem?_cons_zero, List.getElem?_cons_succ]; rfl)); (case h1_1 => kernel_rfl); (case hq_1 => exact fun _ _ _ h => h); (case hw_1 => rfl); (case hy_1 => (intro w' hSw; (try simp only [S] at hSw); go_simp; (try with_reducible rfl))); (case hs_1 => assumption); (try simp only [Act.put, List.setIfInBounds_toArray, List.set_cons_zero, List.set_cons_succ])
  refine wpAnyH_take (i := 1) (oi := ?oi_2) (v := ?v_2) ?ho_2 ?h1_2 ?h2_2 ?h3_2 ?hq_2 (Or.inl ⟨?hw_2, ?hy_2⟩) ?hs_2 ?rest_2; (case h2_2 => kernel_rfl); (case h3_2 => kernel_rfl); (case ho_2 => (simp only [List.getElem?_toArray, List.getElem?_cons_zero, List.getElem?_cons_succ]; rfl)); (case h1_2 => kernel_rfl); (case hq_2 => exact fun _ _ _ h => h); (case hw_2 => rfl); (case hy_2 => (intro w' hSw; (try simp only [S] at hSw); go_simp; (try with_reducible rfl))); (case hs_2 => assumption); (try simp only [Act.put, List.setIfInBounds_toArray, List.set_cons_zero, List.set_cons_succ])
  refine wpAnyH_take (i := 2) (oi := ?oi_3) (v := ?v_3) ?ho_3 ?h1_3 ?h2_3 ?h3_3 ?hq_3 (Or.inl ⟨?hw_3, ?hy_3⟩) ?hs_3 ?rest_3; (case h2_3 => kernel_rfl); (case h3_3 => kernel_rfl); (case ho_3 => (simp only [List.getElem?_toArray, List.getElem?_cons_zero, List.getElem?_cons_succ]; rfl)); (case h1_3 => kernel_rfl); (case hq_3 => exact fun _ _ _ h => h); (case hw_3 => rfl); (case hy_3 => (intro w' hSw; (try simp only [S] at hSw); go_simp; (try with_reducible rfl))); (case hs_3 => assumption); (try simp only [Act.put, List.setIfInBounds_toArray, List.set_cons_zero, List.set_cons_succ])
  refine wpAnyH_take (i := 3) (oi := ?oi_4) (v := ?v_4) ?ho_4 ?h1_4 ?h2_4 ?h3_4 ?hq_4 (Or.inl ⟨?hw_4, ?hy_4⟩) ?hs_4 ?rest_4; (case h2_4 => kernel_rfl); (case h3_4 => kernel_rfl); (case ho_4 => (simp only [List.getElem?_toArray, List.getElem?_cons_zero, List.getElem?_cons_succ]; rfl)); (case h1_4 => kernel_rfl); (case hq_4 => exact fun _ _ _ h => h); (case hw_4 => rfl); (case hy_4 => (intro w' hSw; (try simp only [S] at hSw); go_simp; (try with_reducible rfl))); (case hs_4 => assumption); (try simp only [Act.put, List.setIfInBounds_toArray, List.set_cons_zero, List.set_cons_succ])
  refine wpAnyH_take (i := 4) (oi := ?oi_5) (v := ?v_5) ?ho_5 ?h1_5 ?h2_5 ?h3_5 ?hq_5 (Or.inl ⟨?hw_5, ?hy_5⟩) ?hs_5 ?rest_5; (case h2_5 => kernel_rfl); (case h3_5 => kernel_rfl); (case ho_5 => (simp only [List.getElem?_toArray, List.getElem?_cons_zero, List.getElem?_cons_succ]; rfl)); (case h1_5 => kernel_rfl); (case hq_5 => exact fun _ _ _ h => h); (case hw_5 => rfl); (case hy_5 => (intro w' hSw; (try simp only [S] at hSw); go_simp; (try with_reducible rfl))); (case hs_5 => assumption); (try simp only [Act.put, List.setIfInBounds_toArray, List.set_cons_zero, List.set_cons_succ])
  refine wpAnyH_take (i := 5) (oi := ?oi_6) (v := ?v_6) ?ho_6 ?h1_6 ?h2_6 ?h3_6 ?hq_6 (Or.inl ⟨?hw_6, ?hy_6⟩) ?hs_6 ?rest_6; (case h2_6 => kernel_rfl); (case h3_6 => kernel_rfl); (case ho_6 => (simp only [List.getElem?_toArray, List.getElem?_cons_zero, List.getElem?_cons_succ]; rfl)); (case h1_6 => kernel_rfl); (case hq_6 => exact fun _ _ _ h => h); (case hw_6 => rfl); (case hy_6 => (intro w' hSw; (try simp only [S] at hSw); go_simp; (try with_reducible rfl))); (case hs_6 => assumption); (try simp only [Act.put, List.setIfInBounds_toArray, List.set_cons_zero, List.set_cons_succ])
  refine wpAnyH_take (i := 6) (oi := ?oi_7) (v := ?v_7) ?ho_7 ?h1_7 ?h2_7 ?h3_7 ?hq_7 (Or.inl ⟨?hw_7, ?hy_7⟩) ?hs_7 ?rest_7; (case h2_7 => kernel_rfl); (case h3_7 => kernel_rfl); (case ho_7 => (simp only [List.getElem?_toArray, List.getElem?_cons_zero, List.getElem?_cons_succ]; rfl)); (case h1_7 => kernel_rfl); (case hq_7 => exact fun _ _ _ h => h); (case hw_7 => rfl); (case hy_7 => (intro w' hSw; (try simp only [S] at hSw); go_simp; (try with_reducible rfl))); (case hs_7 => assumption); (try simp only [Act.put, List.setIfInBounds_toArray, List.set_cons_zero, List.set_cons_succ])
  refine wpAnyH_take (i := 7) (oi := ?oi_8) (v := ?v_8) ?ho_8 ?h1_8 ?h2_8 ?h3_8 ?hq_8 (Or.inl ⟨?hw_8, ?hy_8⟩) ?hs_8 ?rest_8; (case h2_8 => kernel_rfl); (case h3_8 => kernel_rfl); (case ho_8 => (simp only [List.getElem?_toArray, List.getElem?_cons_zero, List.getElem?_cons_succ]; rfl)); (case h1_8 => kernel_rfl); (case hq_8 => exact fun _ _ _ h => h); (case hw_8 => rfl); (case hy_8 => (intro w' hSw; (try simp only [S] at hSw); go_simp; (try with_reducible rfl))); (case hs_8 => assumption); (try simp only [Act.put, List.setIfInBounds_toArray, List.set_cons_zero, List.set_cons_succ])
  refine wpAnyH_take (i := 8) (oi := ?oi_9) (v := ?v_9) ?ho_9 ?h1_9 ?h2_9 ?h3_9 ?hq_9 (Or.inl ⟨?hw_9, ?hy_9⟩) ?hs_9 ?rest_9; (case h2_9 => kernel_rfl); (case h3_9 => kernel_rfl); (case ho_9 => (simp only [List.getElem?_toArray, List.getElem?_cons_zero, List.getElem?_cons_succ]; rfl)); (case h1_9 => kernel_rfl); (case hq_9 => exact fun _ _ _ h => h); (case hw_9 => rfl); (case hy_9 => (intro w' hSw; (try simp only [S] at hSw); go_simp; (try with_reducible rfl))); (case hs_9 => assumption); (try simp only [Act.put, List.setIfInBounds_toArray, List.set_cons_zero, List.set_cons_succ])
  refine wpAnyH_take (i := 9) (oi := ?oi_10) (v := ?v_10) ?ho_10 ?h1_10 ?h2_10 ?h3_10 ?hq_10 (Or.inl ⟨?hw_10, ?hy_10⟩) ?hs_10 ?rest_10; (case h2_10 => kernel_rfl); (case h3_10 => kernel_rfl); (case ho_10 => (simp only [List.getElem?_toArray, List.getElem?_cons_zero, List.getElem?_cons_succ]; rfl)); (case h1_10 => kernel_rfl); (case hq_10 => exact fun _ _ _ h => h); (case hw_10 => rfl); (case hy_10 => (intro w' hSw; (try simp only [S] at hSw); go_simp; (try with_reducible rfl))); (case hs_10 => assumption); (try simp only [Act.put, List.setIfInBounds_toArray, List.set_cons_zero, List.set_cons_succ])
  refine wpAnyH_take (i := 10) (oi := ?oi_11) (v := ?v_11) ?ho_11 ?h1_11 ?h2_11 ?h3_11 ?hq_11 (Or.inl ⟨?hw_11, ?hy_11⟩) ?hs_11 ?rest_11; (case h2_11 => kernel_rfl); (case h3_11 => kernel_rfl); (case ho_11 => (simp only [List.getElem?_toArray, List.getElem?_cons_zero, List.getElem?_cons_succ]; rfl)); (case h1_11 => kernel_rfl); (case hq_11 => exact fun _ _ _ h => h); (case hw_11 => rfl); (case hy_11 => (intro w' hSw; (try simp only [S] at hSw); go_simp; (try with_reducible rfl))); (case hs_11 => assumption); (try simp only [Act.put, List.setIfInBounds_toArray, List.set_cons_zero, List.set_cons_succ])
  refine wpAnyH_take (i := 11) (oi := ?oi_12) (v := ?v_12) ?ho_12 ?h1_12 ?h2_12 ?h3_12 ?hq_12 (Or.inl ⟨?hw_12, ?hy_12⟩) ?hs_12 ?rest_12; (case h2_12 => kernel_rfl); (case h3_12 => kernel_rfl); (case ho_12 => (simp only [List.getElem?_toArray, List.getElem?_cons_zero, List.getElem?_cons_succ]; rfl)); (case h1_12 => kernel_rfl); (case hq_12 => exact fun _ _ _ h => h); (case hw_12 => rfl); (case hy_12 => (intro w' hSw; (try simp only [S] at hSw); go_simp; (try with_reducible rfl))); (case hs_12 => assumption); (try simp only [Act.put, List.setIfInBounds_toArray, List.set_cons_zero, List.set_cons_succ])
  refine wpAnyH_take (i := 12) (oi := ?oi_13) (v := ?v_13) ?ho_13 ?h1_13 ?h2_13 ?h3_13 ?hq_13 (Or.inl ⟨?hw_13, ?hy_13⟩) ?hs_13 ?rest_13; (case h2_13 => kernel_rfl); (case h3_13 => kernel_rfl); (case ho_13 => (simp only [List.getElem?_toArray, List.getElem?_cons_zero, List.getElem?_cons_succ]; rfl)); (case h1_13 => kernel_rfl); (case hq_13 => exact fun _ _ _ h => h); (case hw_13 => rfl); (case hy_13 => (intro w' hSw; (try simp only [S] at hSw); go_simp; (try with_reducible rfl))); (case hs_13 => assumption); (try simp only [Act.put, List.setIfInBounds_toArray, List.set_cons_zero, List.set_cons_succ])
  refine wpAnyH_take (i := 13) (oi := ?oi_14) (v := ?v_14) ?ho_14 ?h1_14 ?h2_14 ?h3_14 ?hq_14 (Or.inl ⟨?hw_14, ?hy_14⟩) ?hs_14 ?rest_14; (case h2_14 => kernel_rfl); (case h3_14 => kernel_rfl); (case ho_14 => (simp only [List.getElem?_toArray, List.getElem?_cons_zero, List.getElem?_cons_succ]; rfl)); (case h1_14 => kernel_rfl); (case hq_14 => exact fun _ _ _ h => h); (case hw_14 => rfl); (case hy_14 => (intro w' hSw; (try simp only [S] at hSw); go_simp; (try with_reducible rfl))); (case hs_14 => assumption); (try simp only [Act.put, List.setIfInBounds_toArray, List.set_cons_zero, List.set_cons_succ])
  refine wpAnyH_take (i := 14) (oi := ?oi_15) (v := ?v_15) ?ho_15 ?h1_15 ?h2_15 ?h3_15 ?hq_15 (Or.inl ⟨?hw_15, ?hy_15⟩) ?hs_15 ?rest_15; (case h2_15 => kernel_rfl); (case h3_15 => kernel_rfl); (case ho_15 => (simp only [List.getElem?_toArray, List.getElem?_cons_zero, List.getElem?_cons_succ]; rfl)); (case h1_15 => kernel_rfl); (case hq_15 => exact fun _ _ _ h => h); (case hw_15 => rfl); (case hy_15 => (intro w' hSw; (try simp only [S] at hSw); go_simp; (try with_reducible rfl))); (case hs_15 => assumption); (try simp only [Act.put, List.setIfInBounds_toArray, List.set_cons_zero, List.set_cons_succ])
  refine wpAnyH_take (i := 15) (oi := ?oi_16) (v := ?v_16) ?ho_16 ?h1_16 ?h2_16 ?h3_16 ?hq_16 (Or.inl ⟨?hw_16, ?hy_16⟩) ?hs_16 ?rest_16; (case h2_16 => kernel_rfl); (case h3_16 => kernel_rfl); (case ho_16 => (simp only [List.getElem?_toArray, List.getElem?_cons_zero, List.getElem?_cons_succ]; rfl)); (case h1_16 => kernel_rfl); (case hq_16 => exact fun _ _ _ h => h); (case hw_16 => rfl); (case hy_16 => (intro w' hSw; (try simp only [S] at hSw); go_simp; (try with_reducible rfl))); (case hs_16 => assumption); (try simp only [Act.put, List.setIfInBounds_toArray, List.set_cons_zero, List.set_cons_succ])
  refine wpAnyH_take (i := 16) (oi := ?oi_17) (v := ?v_17) ?ho_17 ?h1_17 ?h2_17 ?h3_17 ?hq_17 (Or.inl ⟨?hw_17, ?hy_17⟩) ?hs_17 ?rest_17; (case h2_17 => kernel_rfl); (case h3_17 => kernel_rfl); (case ho_17 => (simp only [List.getElem?_toArray, List.getElem?_cons_zero, List.getElem?_cons_succ]; rfl)); (case h1_17 => kernel_rfl); (case hq_17 => exact fun _ _ _ h => h); (case hw_17 => rfl); (case hy_17 => (intro w' hSw; (try simp only [S] at hSw); go_simp; (try with_reducible rfl))); (case hs_17 => assumption); (try simp only [Act.put, List.setIfInBounds_toArray, List.set_cons_zero, List.set_cons_succ])
  refine wpAnyH_take (i := 17) (oi := ?oi_18) (v := ?v_18) ?ho_18 ?h1_18 ?h2_18 ?h3_18 ?hq_18 (Or.inl ⟨?hw_18, ?hy_18⟩) ?hs_18 ?rest_18; (case h2_18 => kernel_rfl); (case h3_18 => kernel_rfl); (case ho_18 => (simp only [List.getElem?_toArray, List.getElem?_cons_zero, List.getElem?_cons_succ]; rfl)); (case h1_18 => kernel_rfl); (case hq_18 => exact fun _ _ _ h => h); (case hw_18 => rfl); (case hy_18 => (intro w' hSw; (try simp only [S] at hSw); go_simp; (try with_reducible rfl))); (case hs_18 => assumption); (try simp only [Act.put, List.setIfInBounds_toArray, List.set_cons_zero, List.set_cons_succ])
  refine wpAnyH_take (i := 18) (oi := ?oi_19) (v := ?v_19) ?ho_19 ?h1_19 ?h2_19 ?h3_19 ?hq_19 (Or.inl ⟨?hw_19, ?hy_19⟩) ?hs_19 ?rest_19; (case h2_19 => kernel_rfl); (case h3_19 => kernel_rfl); (case ho_19 => (simp only [List.getElem?_toArray, List.getElem?_cons_zero, List.getElem?_cons_succ]; rfl)); (case h1_19 => kernel_rfl); (case hq_19 => exact fun _ _ _ h => h); (case hw_19 => rfl); (case hy_19 => (intro w' hSw; (try simp only [S] at hSw); go_simp; (try with_reducible rfl))); (case hs_19 => assumption); (try simp only [Act.put, List.setIfInBounds_toArray, List.set_cons_zero, List.set_cons_succ])
  refine wpAnyH_take (i := 19) (oi := ?oi_20) (v := ?v_20) ?ho_20 ?h1_20 ?h2_20 ?h3_20 ?hq_20 (Or.inl ⟨?hw_20, ?hy_20⟩) ?hs_20 ?rest_20; (case h2_20 => kernel_rfl); (case h3_20 => kernel_rfl); (case ho_20 => (simp only [List.getElem?_toArray, List.getElem?_cons_zero, List.getElem?_cons_succ]; rfl)); (case h1_20 => kernel_rfl); (case hq_20 => exact fun _ _ _ h => h); (case hw_20 => rfl); (case hy_20 => (intro w' hSw; (try simp only [S] at hSw); go_simp; (try with_reducible rfl))); (case hs_20 => assumption); (try simp only [Act.put, List.setIfInBounds_toArray, List.set_cons_zero, List.set_cons_succ])
  refine wpAnyH_take (i := 20) (oi := ?oi_21) (v := ?v_21) ?ho_21 ?h1_21 ?h2_21 ?h3_21 ?hq_21 (Or.inl ⟨?hw_21, ?hy_21⟩) ?hs_21 ?rest_21; (case h2_21 => kernel_rfl); (case h3_21 => kernel_rfl); (case ho_21 => (simp only [List.getElem?_toArray, List.getElem?_cons_zero, List.getElem?_cons_succ]; rfl)); (case h1_21 => kernel_rfl); (case hq_21 => exact fun _ _ _ h => h); (case hw_21 => rfl); (case hy_21 => (intro w' hSw; (try simp only [S] at hSw); go_simp; (try with_reducible rfl))); (case hs_21 => assumption); (try simp only [Act.put, List.setIfInBounds_toArray, List.set_cons_zero, List.set_cons_succ])
  refine wpAnyH_take (i := 21) (oi := ?oi_22) (v := ?v_22) ?ho_22 ?h1_22 ?h2_22 ?h3_22 ?hq_22 (Or.inl ⟨?hw_22, ?hy_22⟩) ?hs_22 ?rest_22; (case h2_22 => kernel_rfl); (case h3_22 => kernel_rfl); (case ho_22 => (simp only [List.getElem?_toArray, List.getElem?_cons_zero, List.getElem?_cons_succ]; rfl)); (case h1_22 => kernel_rfl); (case hq_22 => exact fun _ _ _ h => h); (case hw_22 => rfl); (case hy_22 => (intro w' hSw; (try simp only [S] at hSw); go_simp; (try with_reducible rfl))); (case hs_22 => assumption); (try simp only [Act.put, List.setIfInBounds_toArray, List.set_cons_zero, List.set_cons_succ])
  refine wpAnyH_take (i := 22) (oi := ?oi_23) (v := ?v_23) ?ho_23 ?h1_23 ?h2_23 ?h3_23 ?hq_23 (Or.inl ⟨?hw_23, ?hy_23⟩) ?hs_23 ?rest_23; (case h2_23 => kernel_rfl); (case h3_23 => kernel_rfl); (case ho_23 => (simp only [List.getElem?_toArray, List.getElem?_cons_zero, List.getElem?_cons_succ]; rfl)); (case h1_23 => kernel_rfl); (case hq_23 => exact fun _ _ _ h => h); (case hw_23 => rfl); (case hy_23 => (intro w' hSw; (try simp only [S] at hSw); go_simp; (try with_reducible rfl))); (case hs_23 => assumption); (try simp only [Act.put, List.setIfInBounds_toArray, List.set_cons_zero, List.set_cons_succ])
  refine wpAnyH_take (i := 23) (oi := ?oi_24) (v := ?v_24) ?ho_24 ?h1_24 ?h2_24 ?h3_24 ?hq_24 (Or.inl ⟨?hw_24, ?hy_24⟩) ?hs_24 ?rest_24; (case h2_24 => kernel_rfl); (case h3_24 => kernel_rfl); (case ho_24 => (simp only [List.getElem?_toArray, List.getElem?_cons_zero, List.getElem?_cons_succ]; rfl)); (case h1_24 => kernel_rfl); (case hq_24 => exact fun _ _ _ h => h); (case hw_24 => rfl); (case hy_24 => (intro w' hSw; (try simp only [S] at hSw); go_simp; (try with_reducible rfl))); (case hs_24 => assumption); (try simp only [Act.put, List.setIfInBounds_toArray, List.set_cons_zero, List.set_cons_succ])
  refine wpAnyH_take (i := 24) (oi := ?oi_37) (v := ?v_37) ?ho_37 ?h1_37 ?h2_37 ?h3_37 ?hq_37 (Or.inl ⟨?hw_37, ?hy_37⟩) ?hs_37 ?rest_37; (case h2_37 => kernel_rfl); (case h3_37 => kernel_rfl); (case ho_37 => (simp only [List.getElem?_toArray, List.getElem?_cons_zero, List.getElem?_cons_succ]; rfl)); (case h1_37 => kernel_rfl); (case hq_37 => exact fun _ _ _ h => h); (case hw_37 => rfl); (case hy_37 => (intro w' hSw; refine exec_built (t := 43) (cs := c3) (parts := #[(0, .tmp 20), (1, .tmp 30), (5, .tmp 34)]) ?_ ?_ w'; exact rfl; simp only [List.map_toArray, List.map_cons, List.map_nil]; exact hbt)); (case hs_37 => assumption); (try simp only [Act.put, List.setIfInBounds_toArray, List.set_cons_zero, List.set_cons_succ])
  refine wpAnyH_ready (rs := [25]) (by kernel_rfl) (by simp) (AllReadyH.cons (o := ?oo25_38) ?hoo25_38 (fun K hK => ?steponly38) AllReadyH.nil); (case hoo25_38 => (simp only [List.getElem?_toArray, List.getElem?_cons_zero, List.getElem?_cons_succ]; rfl))
  refine step_new rfl hz rfl ?_
  refine hK.out _ _ (hSS _ ((Below.refl _ W).drew.alloc (Nat.le_refl _) _)) (fun _ => ?_)
  clear hK K
  (try simp only [Act.put, List.setIfInBounds_toArray, List.set_cons_zero, List.set_cons_succ])
  refine wpAnyH_ready (rs := [26]) (by kernel_rfl) (by simp) (AllReadyH.cons (o := ?oo26_39) ?hoo26_39 (fun K hK => ?steponly39) AllReadyH.nil); (case hoo26_39 => (simp only [List.getElem?_toArray, List.getElem?_cons_zero, List.getElem?_cons_succ]; rfl))
  refine step_row rfl 43 (.tmp 4) (.tmp 35) rfl W.heap.size c3 rfl rfl _ z.toArray (heap_alloc_new W.drew _) hii3 hsz3 hone3' ?_
  have hbV : Below W.heap.size W ((W.drew.alloc (.cells z.toArray 43)).setRow W.heap.size c3) := bSetRow ((Below.refl _ W).drew.alloc (Nat.le_refl _) _) (Nat.le_refl _) _
  refine hK.out _ _ (hSS _ hbV) (fun _ => ?_)
  clear hK K
  (try simp only [Act.put, List.setIfInBounds_toArray, List.set_cons_zero, List.set_cons_succ])
  refine wpAnyH_done (by kernel_rfl) ?_ _
  have b4 : ((W.drew.alloc (.cells z.toArray 43)).setRow W.heap.size c3).heap[W.heap.size]? = some (.cells c3 43) := setRow_heap _ _ _ _ _ _ (heap_alloc_new W.drew _)
  clear hSS hS0 w0 w1 w2 w3 w4 w5 w6 w7 w8 l0 l1 l2 l3 l4 hbt
  have hBX0 : But w.heap.size (fun k => k = W.heap.size) w ((W.drew.alloc (.cells z.toArray 43)).setRow W.heap.size c3) := but_of (hBW.trans (hbV.mono hBW.size))
  replace a2 := bBlk hbV hzW a2
  replace r1 := bRange hbV (by omega) r1
  replace r2 := bRange hbV (by omega) r2
  replace r3 := bRange hbV (by omega) r3
  clear hbV
  have hne : b ≠ W.heap.size := by omega
  generalize (W.drew.alloc (.cells z.toArray 43)).setRow W.heap.size c3 = Y0 at *
  clear hBW
  let S : World → Prop := fun _ => True
  have hcopy := fun ty => run_copy_cells (P := Try.prog) Y0.drew 24 24 ty 5 W.heap.size 2 32 32 ⟨b, o + 5, none⟩ 32 (c - 5) (bvs r.src) Try.underlying24 (by kernel_rfl) (by rw [bvs_len, hsl]; rfl) (fun j v hj => by rw [addr_add]; exact r1 j v hj)
    (fun j hj => ((there_blk (W := Y0.drew) b4 (o := 2) (n := 32) (by (try simp only [setMany_size]); rw [h3s]; omega)) j (by rw [bvs_len, hsl] at hj; exact hj)).1) (fun j hj => blk_frozen (W := Y0.drew) b4 _) (oneCell_bvs _)
  rw [bvs_len, hsl] at hcopy
  replace b4 := blk_sets (bvs r.src) 2 (W := Y0.drew) b4
  replace a2 := (sets_far (bvs r.src) Y0.drew W.heap.size 2 w.heap.size (by omega)).trans a2
  replace hBX0 : But w.heap.size (fun k => k = W.heap.size) w (Y0.drew.setCells W.heap.size 2 (bvs r.src)) := but_sets (X := fun k => k = W.heap.size) _ _ _ hBX0.drew rfl
  replace r2 := World.rangeAt_setCells_apart (w := Y0.drew) r2 W.heap.size 2 (bvs r.src) (.inl hne)
  replace r3 := World.rangeAt_setCells_apart (w := Y0.drew) r3 W.heap.size 2 (bvs r.src) (.inl hne)
  go_upto_region 4 with (fail)
  refine wp_region_held (S := S) (by kernel_rfl) ?_
  change wpAnyH _ _ _ _ S _ _ _ Y0.drew
  have hS1 : S Y0.drew := trivial
  refine wpAnyH_take (i := 0) (oi := ?oi_25) (v := ?v_25) ?ho_25 ?h1_25 ?h2_25 ?h3_25 ?hq_25 (Or.inl ⟨?hw_25, ?hy_25⟩) ?hs_25 ?rest_25; (case h2_25 => kernel_rfl); (case h3_25 => kernel_rfl); (case ho_25 => (simp only [List.getElem?_toArray, List.getElem?_cons_zero, List.getElem?_cons_succ]; rfl)); (case h1_25 => kernel_rfl); (case hq_25 => exact fun _ _ _ h => h); (case hw_25 => rfl); (case hy_25 => (intro w' hSw; (try simp only [S] at hSw); go_simp; (try with_reducible rfl))); (case hs_25 => assumption); (try simp only [Act.put, List.setIfInBounds_toArray, List.set_cons_zero, List.set_cons_succ])
  refine wpAnyH_take (i := 1) (oi := ?oi_26) (v := ?v_26) ?ho_26 ?h1_26 ?h2_26 ?h3_26 ?hq_26 (Or.inl ⟨?hw_26, ?hy_26⟩) ?hs_26 ?rest_26; (case h2_26 => kernel_rfl); (case h3_26 => kernel_rfl); (case ho_26 => (simp only [List.getElem?_toArray, List.getElem?_cons_zero, List.getElem?_cons_succ]; rfl)); (case h1_26 => kernel_rfl); (case hq_26 => exact fun _ _ _ h => h); (case hw_26 => rfl); (case hy_26 => (intro w' hSw; (try simp only [S] at hSw); go_simp; (try with_reducible rfl))); (case hs_26 => assumption); (try simp only [Act.put, List.setIfInBounds_toArray, List.set_cons_zero, List.set_cons_succ])
  refine wpAnyH_take (i := 2) (oi := ?oi_27) (v := ?v_27) ?ho_27 ?h1_27 ?h2_27 ?h3_27 ?hq_27 (Or.inl ⟨?hw_27, ?hy_27⟩) ?hs_27 ?rest_27; (case h2_27 => kernel_rfl); (case h3_27 => kernel_rfl); (case ho_27 => (simp only [List.getElem?_toArray, List.getElem?_cons_zero, List.getElem?_cons_succ]; rfl)); (case h1_27 => kernel_rfl); (case hq_27 => exact fun _ _ _ h => h); (case hw_27 => rfl); (case hy_27 => (intro w' hSw; (try simp only [S] at hSw); go_simp; (try with_reducible rfl))); (case hs_27 => assumption); (try simp only [Act.put, List.setIfInBounds_toArray, List.set_cons_zero, List.set_cons_succ])
  refine wpAnyH_take (i := 3) (oi := ?oi_28) (v := ?v_28) ?ho_28 ?h1_28 ?h2_28 ?h3_28 ?hq_28 (Or.inl ⟨?hw_28, ?hy_28⟩) ?hs_28 ?rest_28; (case h2_28 => kernel_rfl); (case h3_28 => kernel_rfl); (case ho_28 => (simp only [List.getElem?_toArray, List.getElem?_cons_zero, List.getElem?_cons_succ]; rfl)); (case h1_28 => kernel_rfl); (case hq_28 => exact fun _ _ _ h => h); (case hw_28 => rfl); (case hy_28 => (intro w' hSw; (try simp only [S] at hSw); go_simp; (try with_reducible rfl))); (case hs_28 => assumption); (try simp only [Act.put, List.setIfInBounds_toArray, List.set_cons_zero, List.set_cons_succ])
  refine wpAnyH_ready (rs := [4]) (by kernel_rfl) (by simp) (AllReadyH.cons (o := ?oo4_40) ?hoo4_40 (fun K hK => ?steponly40) AllReadyH.nil); (case hoo4_40 => (simp only [List.getElem?_toArray, List.getElem?_cons_zero, List.getElem?_cons_succ]; rfl))
  go_simp
  refine hK.out _ _ trivial (fun _ => ?_)
  clear hK K hcopy hS1
  (try simp only [Act.put, List.setIfInBounds_toArray, List.set_cons_zero, List.set_cons_succ])
  refine wpAnyH_done (by kernel_rfl) ?_ _
  generalize Y0.drew.setCells W.heap.size 2 (bvs r.src) = Y1 at *
  have hcopy := fun ty => run_copy_cells (P := Try.prog) Y1.drew 24 24 ty 5 W.heap.size 34 32 32 ⟨b, o + 37, none⟩ 32 (c - 37) (bvs r.sty) Try.underlying24 (by kernel_rfl) (by rw [bvs_len, htl]; rfl) (fun j v hj => by rw [addr_add]; exact r2 j v hj)
    (fun j hj => ((there_blk (W := Y1.drew) b4 (o := 34) (n := 32) (by (try simp only [setMany_size]); rw [h3s]; omega)) j (by rw [bvs_len, htl] at hj; exact hj)).1) (fun j hj => blk_frozen (W := Y1.drew) b4 _) (oneCell_bvs _)
  rw [bvs_len, htl] at hcopy
  replace b4 := blk_sets (bvs r.sty) 34 (W := Y1.drew) b4
  replace a2 := (sets_far (bvs r.sty) Y1.drew W.heap.size 34 w.heap.size (by omega)).trans a2
  replace hBX0 : But w.heap.size (fun k => k = W.heap.size) w (Y1.drew.setCells W.heap.size 34 (bvs r.sty)) := but_sets (X := fun k => k = W.heap.size) _ _ _ hBX0.drew rfl
  replace r3 := World.rangeAt_setCells_apart (w := Y1.drew) r3 W.heap.size 34 (bvs r.sty) (.inl hne)
  go_upto_region 5 with (fail)
  refine wp_region_held (S := S) (by kernel_rfl) ?_
  change wpAnyH _ _ _ _ S _ _ _ Y1.drew
  have hS2 : S Y1.drew := trivial
  refine wpAnyH_take (i := 0) (oi := ?oi_29) (v := ?v_29) ?ho_29 ?h1_29 ?h2_29 ?h3_29 ?hq_29 (Or.inl ⟨?hw_29, ?hy_29⟩) ?hs_29 ?rest_29; (case h2_29 => kernel_rfl); (case h3_29 => kernel_rfl); (case ho_29 => (simp only [List.getElem?_toArray, List.getElem?_cons_zero, List.getElem?_cons_succ]; rfl)); (case h1_29 => kernel_rfl); (case hq_29 => exact fun _ _ _ h => h); (case hw_29 => rfl); (case hy_29 => (intro w' hSw; (try simp only [S] at hSw); go_simp; (try with_reducible rfl))); (case hs_29 => assumption); (try simp only [Act.put, List.setIfInBounds_toArray, List.set_cons_zero, List.set_cons_succ])
  refine wpAnyH_take (i := 1) (oi := ?oi_30) (v := ?v_30) ?ho_30 ?h1_30 ?h2_30 ?h3_30 ?hq_30 (Or.inl ⟨?hw_30, ?hy_30⟩) ?hs_30 ?rest_30; (case h2_30 => kernel_rfl); (case h3_30 => kernel_rfl); (case ho_30 => (simp only [List.getElem?_toArray, List.getElem?_cons_zero, List.getElem?_cons_succ]; rfl)); (case h1_30 => kernel_rfl); (case hq_30 => exact fun _ _ _ h => h); (case hw_30 => rfl); (case hy_30 => (intro w' hSw; (try simp only [S] at hSw); go_simp; (try with_reducible rfl))); (case hs_30 => assumption); (try simp only [Act.put, List.setIfInBounds_toArray, List.set_cons_zero, List.set_cons_succ])
  refine wpAnyH_take (i := 2) (oi := ?oi_31) (v := ?v_31) ?ho_31 ?h1_31 ?h2_31 ?h3_31 ?hq_31 (Or.inl ⟨?hw_31, ?hy_31⟩) ?hs_31 ?rest_31; (case h2_31 => kernel_rfl); (case h3_31 => kernel_rfl); (case ho_31 => (simp only [List.getElem?_toArray, List.getElem?_cons_zero, List.getElem?_cons_succ]; rfl)); (case h1_31 => kernel_rfl); (case hq_31 => exact fun _ _ _ h => h); (case hw_31 => rfl); (case hy_31 => (intro w' hSw; (try simp only [S] at hSw); go_simp; (try with_reducible rfl))); (case hs_31 => assumption); (try simp only [Act.put, List.setIfInBounds_toArray, List.set_cons_zero, List.set_cons_succ])
  refine wpAnyH_take (i := 3) (oi := ?oi_32) (v := ?v_32) ?ho_32 ?h1_32 ?h2_32 ?h3_32 ?hq_32 (Or.inl ⟨?hw_32, ?hy_32⟩) ?hs_32 ?rest_32; (case h2_32 => kernel_rfl); (case h3_32 => kernel_rfl); (case ho_32 => (simp only [List.getElem?_toArray, List.getElem?_cons_zero, List.getElem?_cons_succ]; rfl)); (case h1_32 => kernel_rfl); (case hq_32 => exact fun _ _ _ h => h); (case hw_32 => rfl); (case hy_32 => (intro w' hSw; (try simp only [S] at hSw); go_simp; (try with_reducible rfl))); (case hs_32 => assumption); (try simp only [Act.put, List.setIfInBounds_toArray, List.set_cons_zero, List.set_cons_succ])
  refine wpAnyH_ready (rs := [4]) (by kernel_rfl) (by simp) (AllReadyH.cons (o := ?oo4_41) ?hoo4_41 (fun K hK => ?steponly41) AllReadyH.nil); (case hoo4_41 => (simp only [List.getElem?_toArray, List.getElem?_cons_zero, List.getElem?_cons_succ]; rfl))
  go_simp
  refine hK.out _ _ trivial (fun _ => ?_)
  clear hK K hcopy hS2
  (try simp only [Act.put, List.setIfInBounds_toArray, List.set_cons_zero, List.set_cons_succ])
  refine wpAnyH_done (by kernel_rfl) ?_ _
  generalize Y1.drew.setCells W.heap.size 34 (bvs r.sty) = Y2 at *
  have hcopy := fun ty => run_copy_cells (P := Try.prog) Y2.drew 24 24 ty 5 W.heap.size 66 32 32 ⟨b, o + 69, none⟩ 32 (c - 69) (bvs r.tre) Try.underlying24 (by kernel_rfl) (by rw [bvs_len, hul]; rfl) (fun j v hj => by rw [addr_add]; exact r3 j v hj)
    (fun j hj => ((there_blk (W := Y2.drew) b4 (o := 66) (n := 32) (by (try simp only [setMany_size]); rw [h3s]; omega)) j (by rw [bvs_len, hul] at hj; exact hj)).1) (fun j hj => blk_frozen (W := Y2.drew) b4 _) (oneCell_bvs _)
  rw [bvs_len, hul] at hcopy
  replace b4 := blk_sets (bvs r.tre) 66 (W := Y2.drew) b4
  replace a2 := (sets_far (bvs r.tre) Y2.drew W.heap.size 66 w.heap.size (by omega)).trans a2
  replace hBX0 : But w.heap.size (fun k => k = W.heap.size) w (Y2.drew.setCells W.heap.size 66 (bvs r.tre)) := but_sets (X := fun k => k = W.heap.size) _ _ _ hBX0.drew rfl
  go_upto_region 6 with (fail)
  refine wp_region_held (S := S) (by kernel_rfl) ?_
  change wpAnyH _ _ _ _ S _ _ _ Y2.drew
  have hS3 : S Y2.drew := trivial
  refine wpAnyH_take (i := 0) (oi := ?oi_33) (v := ?v_33) ?ho_33 ?h1_33 ?h2_33 ?h3_33 ?hq_33 (Or.inl ⟨?hw_33, ?hy_33⟩) ?hs_33 ?rest_33; (case h2_33 => kernel_rfl); (case h3_33 => kernel_rfl); (case ho_33 => (simp only [List.getElem?_toArray, List.getElem?_cons_zero, List.getElem?_cons_succ]; rfl)); (case h1_33 => kernel_rfl); (case hq_33 => exact fun _ _ _ h => h); (case hw_33 => rfl); (case hy_33 => (intro w' hSw; (try simp only [S] at hSw); go_simp; (try with_reducible rfl))); (case hs_33 => assumption); (try simp only [Act.put, List.setIfInBounds_toArray, List.set_cons_zero, List.set_cons_succ])
  refine wpAnyH_take (i := 1) (oi := ?oi_34) (v := ?v_34) ?ho_34 ?h1_34 ?h2_34 ?h3_34 ?hq_34 (Or.inl ⟨?hw_34, ?hy_34⟩) ?hs_34 ?rest_34; (case h2_34 => kernel_rfl); (case h3_34 => kernel_rfl); (case ho_34 => (simp only [List.getElem?_toArray, List.getElem?_cons_zero, List.getElem?_cons_succ]; rfl)); (case h1_34 => kernel_rfl); (case hq_34 => exact fun _ _ _ h => h); (case hw_34 => rfl); (case hy_34 => (intro w' hSw; (try simp only [S] at hSw); go_simp; (try with_reducible rfl))); (case hs_34 => assumption); (try simp only [Act.put, List.setIfInBounds_toArray, List.set_cons_zero, List.set_cons_succ])
  refine wpAnyH_take (i := 2) (oi := ?oi_35) (v := ?v_35) ?ho_35 ?h1_35 ?h2_35 ?h3_35 ?hq_35 (Or.inl ⟨?hw_35, ?hy_35⟩) ?hs_35 ?rest_35; (case h2_35 => kernel_rfl); (case h3_35 => kernel_rfl); (case ho_35 => (simp only [List.getElem?_toArray, List.getElem?_cons_zero, List.getElem?_cons_succ]; rfl)); (case h1_35 => kernel_rfl); (case hq_35 => exact fun _ _ _ h => h); (case hw_35 => rfl); (case hy_35 => (intro w' hSw; (try simp only [S] at hSw); go_simp; (try with_reducible rfl))); (case hs_35 => assumption); (try simp only [Act.put, List.setIfInBounds_toArray, List.set_cons_zero, List.set_cons_succ])
  refine wpAnyH_take (i := 3) (oi := ?oi_36) (v := ?v_36) ?ho_36 ?h1_36 ?h2_36 ?h3_36 ?hq_36 (Or.inl ⟨?hw_36, ?hy_36⟩) ?hs_36 ?rest_36; (case h2_36 => kernel_rfl); (case h3_36 => kernel_rfl); (case ho_36 => (simp only [List.getElem?_toArray, List.getElem?_cons_zero, List.getElem?_cons_succ]; rfl)); (case h1_36 => kernel_rfl); (case hq_36 => exact fun _ _ _ h => h); (case hw_36 => rfl); (case hy_36 => (intro w' hSw; (try simp only [S] at hSw); go_simp; (try with_reducible rfl))); (case hs_36 => assumption); (try simp only [Act.put, List.setIfInBounds_toArray, List.set_cons_zero, List.set_cons_succ])
  refine wpAnyH_ready (rs := [4]) (by kernel_rfl) (by simp) (AllReadyH.cons (o := ?oo4_42) ?hoo4_42 (fun K hK => ?steponly42) AllReadyH.nil); (case hoo4_42 => (simp only [List.getElem?_toArray, List.getElem?_cons_zero, List.getElem?_cons_succ]; rfl))
  go_simp
  refine hK.out _ _ trivial (fun _ => ?_)
  clear hK K hcopy hS3
  (try simp only [Act.put, List.setIfInBounds_toArray, List.set_cons_zero, List.set_cons_succ])
  refine wpAnyH_done (by kernel_rfl) ?_ _
  generalize Y2.drew.setCells W.heap.size 66 (bvs r.tre) = Y3 at *
  rw [HF.out] at b4
  have hBc := hBX0.below (Nat.le_refl _) (fun k e => by omega)
  have b2 := a2
  have hrr := rrev_any hrev
  unfold rvv EncP at hrr
  clear hBX0 a2 c5 c37 c69 i37 i69 i101
  go_wp2_with (first
    | (refine wpList_load_row rfl 43 (.tmp 4) rfl _ rfl _ r.cells.toArray (0, 0) _ b4 Try.underlying43 rfl hii ?_)
    | fail)
  refine Calls.mono (hrr _) ?_
  rintro e X ⟨A2, n2, cc2, rfl, -, -, -, -, -, hbX⟩
  have y4 := bBlk hbX (Array.getElem?_eq_some_iff.1 b4).1 b4
  have y2 := bBlk hbX (Array.getElem?_eq_some_iff.1 b2).1 b2
  have hBX := hBc.trans (hbX.mono hBc.size)
  clear hrr hbX b4 b2 hBc
  obtain ⟨V, hV1⟩ : ∃ V, X.setRow w.heap.size z.toArray = V := ⟨_, rfl⟩
  have v2 : V.heap[w.heap.size]? = some (.cells z.toArray 43) := by rw [← hV1]; exact setRow_heap _ _ _ _ _ _ y2
  have hBV : Below w.heap.size w V := by rw [← hV1]; exact bSetRow hBX (Nat.le_refl _) _
  obtain ⟨U, hU1⟩ : ∃ V, X.setRow w.heap.size r.cells.toArray = V := ⟨_, rfl⟩
  have u2 : U.heap[w.heap.size]? = some (.cells r.cells.toArray 43) := by rw [← hU1]; exact setRow_heap _ _ _ _ _ _ y2
  have hBU : Below w.heap.size w U := by rw [← hU1]; exact bSetRow hBX (Nat.le_refl _) _
  have hldV := run_loadVar_row (P := Try.prog) V _ _ 43 _ _ _ v2 Try.underlying43 rfl hin
  have hldU := run_loadVar_row (P := Try.prog) U _ _ 43 _ _ _ u2 Try.underlying43 rfl hii
  obtain ⟨g, hg⟩ : ∃ g, r.good = g := ⟨_, rfl⟩
  rw [hg] at hR
  have HB := Lib.hid (And.intro hBV hBU)
  clear hBV hBU hBX v2 u2
  rw [hg]
  have HG := Lib.hid hg
  clear hg
  cases g
  · rw [show erF false = 11 from rfl]
    clear hldU hU1
    go_wp2_with (first
      | (refine wpList_built rfl 43 #[] rfl (cs := z.toArray) (by simp only [List.map_toArray, List.map_nil]; exact hb0) ?_)
      | (refine wpList_store_row rfl 43 (.tmp 2) (.tmp 58) rfl _ z.toArray rfl rfl _ z.toArray y2 hin rfl (all_oneCell_toArray hone) ?_)
      | fail)
    try rw [hV1]
    refine bodyPost_ret (by simp [results, Try.results23, Act.put, asAddr, Result.andThen, hldV]; try rfl) rfl ?_
    exact Ret.mk (by rw [hV.out, hR.out]; simp only [Bool.false_eq_true, if_false, HZ.out, erF]) HB.out.1
  · rw [show erF true = 0 from rfl]
    clear hldV hV1
    go_wp2_with (first
      | (refine wpList_load_row rfl 43 (.tmp 4) rfl _ rfl _ r.cells.toArray (0, 0) _ y4 Try.underlying43 rfl hii ?_)
      | (refine wpList_store_row rfl 43 (.tmp 2) (.tmp 59) rfl _ r.cells.toArray rfl rfl _ z.toArray y2 hii hsz (all_oneCell_toArray hone2) ?_)
      | fail)
    try rw [hU1]
    refine bodyPost_ret (by simp [results, Try.results23, Act.put, asAddr, Result.andThen, hldU]; try rfl) rfl ?_
    exact Ret.mk (by rw [hV.out, hR.out]; simp only [if_true, erF]) HB.out.2
end Go.Proofs.Ytjfkaebikmnnaaa
