/- The walk over the reference's DecodeRev. -/
import Derived.Test.YtjfkaebikmnnaaaRevDec
namespace Go.Proofs.Ytjfkaebikmnnaaa
set_option linter.unusedSimpArgs false
set_option linter.unusedVariables false
open Go.RowKit Go.Sort

def rv3 (a b c : Int) : RV := ⟨a, b, List.replicate 32 0, List.replicate 32 0, List.replicate 32 0, c⟩
theorem built_rv3 (a b c : Int) : Try.prog.built 43 [(0, .int .i64 a), (1, .int .i64 b), (5, .int .i64 c)] = some (rv3 a b c).cells.toArray := by kernel_rfl
theorem rv3_len (a b c : Int) : (rv3 a b c).cells.length = 99 := by simp [RV.cells, rv3, bvs_len]
theorem rv_fill {r : RV} (h : r.Ok) : setMany (setMany (setMany (rv3 r.num r.par r.pag).cells.toArray 2 (bvs r.src)) 34 (bvs r.sty)) 66 (bvs r.tre) = r.cells.toArray := by
  obtain ⟨num, par, src, sty, tre, pag⟩ := r
  have h1 : (bvs src).length = 32 := by rw [bvs_len]; exact h.src
  have h2 : (bvs sty).length = 32 := by rw [bvs_len]; exact h.sty
  have h3 : (bvs tre).length = 32 := by rw [bvs_len]; exact h.tre
  obtain ⟨Z, hZ⟩ : ∃ Z, bvs (List.replicate 32 0) = Z := ⟨_, rfl⟩
  have hz : Z.length = 32 := by rw [← hZ, bvs_len]; simp
  have e0 : (rv3 num par pag).cells = .int .i64 num :: .int .i64 par :: (Z ++ (Z ++ (Z ++ [.int .i64 pag]))) := by rw [← hZ]; rfl
  simp only at *
  have e4 := setMany_at (l := .int .i64 num :: .int .i64 par :: (Z ++ (Z ++ (Z ++ [.int .i64 pag])))) (x := [.int .i64 num, .int .i64 par]) (y := Z) (z := Z ++ (Z ++ [.int .i64 pag])) (v := bvs src) (o := 2) (by simp) rfl (by omega)
  have e5 := setMany_at (l := .int .i64 num :: .int .i64 par :: (bvs src ++ (Z ++ (Z ++ [.int .i64 pag])))) (x := .int .i64 num :: .int .i64 par :: bvs src) (y := Z) (z := Z ++ [.int .i64 pag]) (v := bvs sty) (o := 34) (by simp) (by simp [h1]) (by omega)
  have e6 := setMany_at (l := .int .i64 num :: .int .i64 par :: (bvs src ++ (bvs sty ++ (Z ++ [.int .i64 pag])))) (x := .int .i64 num :: .int .i64 par :: (bvs src ++ bvs sty)) (y := Z) (z := [.int .i64 pag]) (v := bvs tre) (o := 66) (by simp) (by simp [h1, h2]) (by omega)
  simp only [List.cons_append, List.nil_append, List.append_assoc] at e4 e5 e6
  rw [e0, e4, e5, e6]
  rfl

set_option maxHeartbeats 4000000 in
set_option maxRecDepth 100000 in
theorem rdec_short {A : Option Addr} {n c : Nat} {l : List UInt8} (hn : n = l.length) (h : n ≠ 101) (w : World) : Calls Try.prog 23 #[.slice A n c] w (RDec w l) := by
  have hD : Hid ((Value.tuple #[rvv (rvOf l), .int .i64 (erF (isR l))]) = .tuple #[.agg rv0.cells.toArray, .int .i64 11]) := Lib.hid (by
    have : isR l = false := by unfold isR; rw [decide_eq_false (by omega)]; rfl
    unfold rvOf rvv erF
    rw [this]; rfl)
  have h1 : (n : Int) ≠ 101 := by omega
  have hin : (Try.prog.info? 43).map (·.size) = some rv0.cells.toArray.size := rv_info rv0_ok
  have hz := rvZ
  have hb0 := built_rv0
  have hone := one_rv rv0
  obtain ⟨z, hzz⟩ : ∃ z, rv0.cells = z := ⟨_, rfl⟩
  rw [hzz] at hD hin hz hb0 hone
  clear hzz hn
  go_enter Try.func23, Try.ntmps23
  go_upto_region 1 with (first | (refine wpList_new rfl hz rfl ?_) | fail)
  obtain ⟨W, hW⟩ : ∃ W, w.alloc (.cells z.toArray 43) = W := ⟨_, rfl⟩
  try rw [hW]
  have a2 : W.heap[w.heap.size]? = some (.cells z.toArray 43) := by rw [← hW]; exact heap_alloc_new _ _
  have hB : Below w.heap.size w W := by rw [← hW]; exact (Below.refl _ _).alloc (Nat.le_refl _) _
  clear hW hz
  obtain ⟨V, hV⟩ : ∃ V, W.setRow w.heap.size z.toArray = V := ⟨_, rfl⟩
  have v2 : V.heap[w.heap.size]? = some (.cells z.toArray 43) := by rw [← hV]; exact setRow_heap _ _ _ _ _ _ a2
  have hBV : Below w.heap.size w V := by rw [← hV]; exact bSetRow hB (Nat.le_refl _) _
  have hld := run_loadVar_row (P := Try.prog) V _ _ 43 _ _ _ v2 Try.underlying43 rfl hin
  have HB := Lib.hid hBV
  clear hBV hB v2
  go_wp2_with (first
    | (refine wpList_built rfl 43 #[] rfl (cs := z.toArray) (by simp only [List.map_toArray, List.map_nil]; exact hb0) ?_)
    | (refine wpList_store_row rfl 43 (.tmp 2) (.tmp 10) rfl _ z.toArray rfl rfl _ z.toArray a2 hin rfl (all_oneCell_toArray hone) ?_)
    | fail)
  try rw [hV]
  refine bodyPost_ret (by simp [results, Try.results23, Act.put, asAddr, Result.andThen, hld]; try rfl) rfl ?_
  exact Ret.mk hD.out.symm HB.out

set_option maxHeartbeats 8000000 in
set_option maxRecDepth 100000 in
theorem rdec_full {A : Option Addr} {c B : Nat} {l : List UInt8} (hl : l.length = 101) (w : World) (hs : Sl w B 1 A 101 (bvs l)) (hB : B ≤ w.heap.size) (hc : 101 ≤ c) : Calls Try.prog 23 #[.slice A 101 c] w (RDec w l) := by
  obtain ⟨b, o, rfl, hbB, hr⟩ := hs.at_ (by omega)
  have hR : Hid (isR l = (decR l).good) := Lib.hid (by unfold isR; rw [decide_eq_true hl]; rfl)
  have hV : Hid (rvOf l = if isR l then decR l else rv0) := Lib.hid rfl
  have hok := decR_ok hl
  have hfill := rv_fill hok
  have e1 : (((at8 l 0).toNat : Nat) : Int) * 256 + (((at8 l 1).toNat : Nat) : Int) = (decR l).num := by
    show _ = (((at8 l 0).toNat * 256 + (at8 l 1).toNat : Nat) : Int)
    omega
  have e2 : (((at8 l 2).toNat : Nat) : Int) * 256 + (((at8 l 3).toNat : Nat) : Int) = (decR l).par := by
    show _ = (((at8 l 2).toNat * 256 + (at8 l 3).toNat : Nat) : Int)
    omega
  have e3 : (((at8 l 4).toNat : Nat) : Int) = (decR l).pag := rfl
  have e4 : (l.drop 5).take 32 = (decR l).src := rfl
  have e5 : (l.drop 37).take 32 = (decR l).sty := rfl
  have e6 : (l.drop 69).take 32 = (decR l).tre := rfl
  have k0 := hs.cellAt rfl (i := 0) (by omega)
  have k1 := hs.cellAt rfl (i := 1) (by omega)
  have k2 := hs.cellAt rfl (i := 2) (by omega)
  have k3 := hs.cellAt rfl (i := 3) (by omega)
  have k4 := hs.cellAt rfl (i := 4) (by omega)
  rw [Nat.add_zero] at k0
  have r1 := range_cut hr 5 32
  have r2 := range_cut hr 37 32
  have r3 := range_cut hr 69 32
  rw [show ((bvs l).drop 5).take 32 = bvs ((l.drop 5).take 32) from by simp [bvs, List.map_take, List.map_drop], e4] at r1
  rw [show ((bvs l).drop 37).take 32 = bvs ((l.drop 37).take 32) from by simp [bvs, List.map_take, List.map_drop], e5] at r2
  rw [show ((bvs l).drop 69).take 32 = bvs ((l.drop 69).take 32) from by simp [bvs, List.map_take, List.map_drop], e6] at r3
  have l0 := (at8 l 0).toNat_lt
  have l1 := (at8 l 1).toNat_lt
  have l2 := (at8 l 2).toNat_lt
  have l3 := (at8 l 3).toNat_lt
  have l4 := (at8 l 4).toNat_lt
  have hsl := hok.src
  have htl := hok.sty
  have hul := hok.tre
  have hin : (Try.prog.info? 43).map (·.size) = some rv0.cells.toArray.size := rv_info rv0_ok
  have hii := rv_info hok
  have hsz := rv_sizes rv0_ok hok
  have hz := rvZ
  have hb0 := built_rv0
  have hone := one_rv rv0
  have hone2 := one_rv (decR l)
  have hrev := hok
  unfold RDec rvv
  clear e4 e5 e6 hs
  generalize decR l = r at *
  generalize (at8 l 0).toNat = X0 at *
  generalize (at8 l 1).toNat = X1 at *
  generalize (at8 l 2).toNat = X2 at *
  generalize (at8 l 3).toNat = X3 at *
  generalize (at8 l 4).toNat = X4 at *
  have w0 : IntKind.i64.wrap (X0 : Int) = X0 := wrap_small _ (by omega) (by omega)
  have w1 : IntKind.i64.wrap (X1 : Int) = X1 := wrap_small _ (by omega) (by omega)
  have w2 : IntKind.i64.wrap (X2 : Int) = X2 := wrap_small _ (by omega) (by omega)
  have w3 : IntKind.i64.wrap (X3 : Int) = X3 := wrap_small _ (by omega) (by omega)
  have w4 : IntKind.i64.wrap (X4 : Int) = X4 := wrap_small _ (by omega) (by omega)
  have w5 : IntKind.i64.wrap ((X0 : Int) * 256) = X0 * 256 := wrap_small _ (by omega) (by omega)
  have w6 : IntKind.i64.wrap ((X2 : Int) * 256) = X2 * 256 := wrap_small _ (by omega) (by omega)
  have w7 : IntKind.i64.wrap ((X0 : Int) * 256 + X1) = r.num := by rw [← e1]; exact wrap_small _ (by omega) (by omega)
  have w8 : IntKind.i64.wrap ((X2 : Int) * 256 + X3) = r.par := by rw [← e2]; exact wrap_small _ (by omega) (by omega)
  have hbt := built_rv3 r.num r.par r.pag
  have hii3 : (Try.prog.info? 43).map (·.size) = some (rv3 r.num r.par r.pag).cells.toArray.size := by rw [List.size_toArray, rv3_len]; exact rv_size
  have hsz3 : rv0.cells.toArray.size = (rv3 r.num r.par r.pag).cells.toArray.size := by rw [List.size_toArray, List.size_toArray, rv3_len, rv0_ok.len]
  have hone3 := one_rv (rv3 r.num r.par r.pag)
  obtain ⟨c3, hc3⟩ : ∃ c, (rv3 r.num r.par r.pag).cells.toArray = c := ⟨_, rfl⟩
  have h3s : c3.size = 99 := by rw [← hc3, List.size_toArray, rv3_len]
  have hone3' : c3.all (·.oneCell') = true := by rw [← hc3]; exact all_oneCell_toArray hone3
  rw [hc3] at hbt hii3 hsz3 hfill
  rw [← e3] at hbt
  have HF := Lib.hid hfill
  clear hone3 hc3 hfill e1 e2 e3
  obtain ⟨z, hzz⟩ : ∃ z, rv0.cells = z := ⟨_, rfl⟩
  have HZ := Lib.hid hzz
  rw [hzz] at hin hz hb0 hone hsz hsz3
  clear hzz hbB
  have hbw : b < w.heap.size := range_lt hr (by intro e; have := congrArg List.length e; rw [bvs_len, hl] at this; simp at this)
  have c5 : ¬ c = 5 := by omega
  have c37 : ¬ c = 37 := by omega
  have c69 : ¬ c = 69 := by omega
  have i37 : (37 : Int) ≤ (c : Int) := by omega
  have i69 : (69 : Int) ≤ (c : Int) := by omega
  have i101 : (101 : Int) ≤ (c : Int) := by omega
  go_enter Try.func23, Try.ntmps23
  go_upto_region 3 with (first | (refine wpList_new rfl hz rfl ?_) | fail)
  obtain ⟨W, hW⟩ : ∃ W, w.alloc (.cells z.toArray 43) = W := ⟨_, rfl⟩
  try rw [hW]
  have a2 : W.heap[w.heap.size]? = some (.cells z.toArray 43) := by rw [← hW]; exact heap_alloc_new _ _
  have hBW : Below w.heap.size w W := by rw [← hW]; exact (Below.refl _ _).alloc (Nat.le_refl _) _
  have hzW : w.heap.size < W.heap.size := by rw [← hW]; simp
  clear hW
  replace k0 := (hBW.cell (p := ⟨b, o, none⟩) hbw).trans k0
  replace k1 := (hBW.cell (p := ⟨b, o + 1, none⟩) hbw).trans k1
  replace k2 := (hBW.cell (p := ⟨b, o + 2, none⟩) hbw).trans k2
  replace k3 := (hBW.cell (p := ⟨b, o + 3, none⟩) hbw).trans k3
  replace k4 := (hBW.cell (p := ⟨b, o + 4, none⟩) hbw).trans k4
  replace r1 := bRange hBW hbw r1
  replace r2 := bRange hBW hbw r2
  replace r3 := bRange hBW hbw r3
  let S : World → Prop := fun w' => w'.cell? ⟨b, o, none⟩ = some (.int .u8 (X0 : Int)) ∧ w'.cell? ⟨b, o + 1, none⟩ = some (.int .u8 (X1 : Int)) ∧ w'.cell? ⟨b, o + 2, none⟩ = some (.int .u8 (X2 : Int)) ∧ w'.cell? ⟨b, o + 3, none⟩ = some (.int .u8 (X3 : Int)) ∧ w'.cell? ⟨b, o + 4, none⟩ = some (.int .u8 (X4 : Int))
  have hSS : ∀ w', Below W.heap.size W w' → S w' := fun w' h => ⟨(h.cell (p := ⟨b, o, none⟩) (by show b < _; omega)).trans k0, (h.cell (p := ⟨b, o + 1, none⟩) (by show b < _; omega)).trans k1, (h.cell (p := ⟨b, o + 2, none⟩) (by show b < _; omega)).trans k2, (h.cell (p := ⟨b, o + 3, none⟩) (by show b < _; omega)).trans k3, (h.cell (p := ⟨b, o + 4, none⟩) (by show b < _; omega)).trans k4⟩
  have hS0 : S W.drew := hSS _ (Below.refl _ _).drew
  clear k0 k1 k2 k3 k4
  refine wp_region_held (S := S) (by kernel_rfl) ?_
  change wpAnyH _ _ _ _ S _ _ _ W.drew
  refine wpAnyH_take (i := 0) (oi := ?oi_167) (v := ?v_167) ?ho_167 ?h1_167 ?h2_167 ?h3_167 ?hq_167 (Or.inl ⟨?hw_167, ?hy_167⟩) ?hs_167 ?rest_167; (case h2_167 => kernel_rfl); (case h3_167 => kernel_rfl); (case ho_167 => (simp only [List.getElem?_toArray, List.getElem?_cons_zero, List.getElem?_cons_succ]; rfl)); (case h1_167 => kernel_rfl); (case hq_167 => exact fun _ _ _ h => h); (case hw_167 => rfl); (case hy_167 => (intro w' hSw; (try simp only [S] at hSw); go_simp; (try with_reducible rfl))); (case hs_167 => assumption); (try simp only [Act.put, List.setIfInBounds_toArray, List.set_cons_zero, List.set_cons_succ])
  refine wpAnyH_take (i := 1) (oi := ?oi_168) (v := ?v_168) ?ho_168 ?h1_168 ?h2_168 ?h3_168 ?hq_168 (Or.inl ⟨?hw_168, ?hy_168⟩) ?hs_168 ?rest_168; (case h2_168 => kernel_rfl); (case h3_168 => kernel_rfl); (case ho_168 => (simp only [List.getElem?_toArray, List.getElem?_cons_zero, List.getElem?_cons_succ]; rfl)); (case h1_168 => kernel_rfl); (case hq_168 => exact fun _ _ _ h => h); (case hw_168 => rfl); (case hy_168 => (intro w' hSw; (try simp only [S] at hSw); go_simp; (try with_reducible rfl))); (case hs_168 => assumption); (try simp only [Act.put, List.setIfInBounds_toArray, List.set_cons_zero, List.set_cons_succ])
  refine wpAnyH_take (i := 2) (oi := ?oi_169) (v := ?v_169) ?ho_169 ?h1_169 ?h2_169 ?h3_169 ?hq_169 (Or.inl ⟨?hw_169, ?hy_169⟩) ?hs_169 ?rest_169; (case h2_169 => kernel_rfl); (case h3_169 => kernel_rfl); (case ho_169 => (simp only [List.getElem?_toArray, List.getElem?_cons_zero, List.getElem?_cons_succ]; rfl)); (case h1_169 => kernel_rfl); (case hq_169 => exact fun _ _ _ h => h); (case hw_169 => rfl); (case hy_169 => (intro w' hSw; (try simp only [S] at hSw); go_simp; (try with_reducible rfl))); (case hs_169 => assumption); (try simp only [Act.put, List.setIfInBounds_toArray, List.set_cons_zero, List.set_cons_succ])
  refine wpAnyH_take (i := 3) (oi := ?oi_170) (v := ?v_170) ?ho_170 ?h1_170 ?h2_170 ?h3_170 ?hq_170 (Or.inl ⟨?hw_170, ?hy_170⟩) ?hs_170 ?rest_170; (case h2_170 => kernel_rfl); (case h3_170 => kernel_rfl); (case ho_170 => (simp only [List.getElem?_toArray, List.getElem?_cons_zero, List.getElem?_cons_succ]; rfl)); (case h1_170 => kernel_rfl); (case hq_170 => exact fun _ _ _ h => h); (case hw_170 => rfl); (case hy_170 => (intro w' hSw; (try simp only [S] at hSw); go_simp; (try with_reducible rfl))); (case hs_170 => assumption); (try simp only [Act.put, List.setIfInBounds_toArray, List.set_cons_zero, List.set_cons_succ])
  refine wpAnyH_take (i := 4) (oi := ?oi_171) (v := ?v_171) ?ho_171 ?h1_171 ?h2_171 ?h3_171 ?hq_171 (Or.inl ⟨?hw_171, ?hy_171⟩) ?hs_171 ?rest_171; (case h2_171 => kernel_rfl); (case h3_171 => kernel_rfl); (case ho_171 => (simp only [List.getElem?_toArray, List.getElem?_cons_zero, List.getElem?_cons_succ]; rfl)); (case h1_171 => kernel_rfl); (case hq_171 => exact fun _ _ _ h => h); (case hw_171 => rfl); (case hy_171 => (intro w' hSw; (try simp only [S] at hSw); go_simp; (try with_reducible rfl))); (case hs_171 => assumption); (try simp only [Act.put, List.setIfInBounds_toArray, List.set_cons_zero, List.set_cons_succ])
  refine wpAnyH_take (i := 5) (oi := ?oi_172) (v := ?v_172) ?ho_172 ?h1_172 ?h2_172 ?h3_172 ?hq_172 (Or.inl ⟨?hw_172, ?hy_172⟩) ?hs_172 ?rest_172; (case h2_172 => kernel_rfl); (case h3_172 => kernel_rfl); (case ho_172 => (simp only [List.getElem?_toArray, List.getElem?_cons_zero, List.getElem?_cons_succ]; rfl)); (case h1_172 => kernel_rfl); (case hq_172 => exact fun _ _ _ h => h); (case hw_172 => rfl); (case hy_172 => (intro w' hSw; (try simp only [S] at hSw); go_simp; (try with_reducible rfl))); (case hs_172 => assumption); (try simp only [Act.put, List.setIfInBounds_toArray, List.set_cons_zero, List.set_cons_succ])
  refine wpAnyH_take (i := 6) (oi := ?oi_173) (v := ?v_173) ?ho_173 ?h1_173 ?h2_173 ?h3_173 ?hq_173 (Or.inl ⟨?hw_173, ?hy_173⟩) ?hs_173 ?rest_173; (case h2_173 => kernel_rfl); (case h3_173 => kernel_rfl); (case ho_173 => (simp only [List.getElem?_toArray, List.getElem?_cons_zero, List.getElem?_cons_succ]; rfl)); (case h1_173 => kernel_rfl); (case hq_173 => exact fun _ _ _ h => h); (case hw_173 => rfl); (case hy_173 => (intro w' hSw; (try simp only [S] at hSw); go_simp; (try with_reducible rfl))); (case hs_173 => assumption); (try simp only [Act.put, List.setIfInBounds_toArray, List.set_cons_zero, List.set_cons_succ])
  refine wpAnyH_take (i := 7) (oi := ?oi_174) (v := ?v_174) ?ho_174 ?h1_174 ?h2_174 ?h3_174 ?hq_174 (Or.inl ⟨?hw_174, ?hy_174⟩) ?hs_174 ?rest_174; (case h2_174 => kernel_rfl); (case h3_174 => kernel_rfl); (case ho_174 => (simp only [List.getElem?_toArray, List.getElem?_cons_zero, List.getElem?_cons_succ]; rfl)); (case h1_174 => kernel_rfl); (case hq_174 => exact fun _ _ _ h => h); (case hw_174 => rfl); (case hy_174 => (intro w' hSw; (try simp only [S] at hSw); go_simp; (try with_reducible rfl))); (case hs_174 => assumption); (try simp only [Act.put, List.setIfInBounds_toArray, List.set_cons_zero, List.set_cons_succ])
  refine wpAnyH_take (i := 8) (oi := ?oi_175) (v := ?v_175) ?ho_175 ?h1_175 ?h2_175 ?h3_175 ?hq_175 (Or.inl ⟨?hw_175, ?hy_175⟩) ?hs_175 ?rest_175; (case h2_175 => kernel_rfl); (case h3_175 => kernel_rfl); (case ho_175 => (simp only [List.getElem?_toArray, List.getElem?_cons_zero, List.getElem?_cons_succ]; rfl)); (case h1_175 => kernel_rfl); (case hq_175 => exact fun _ _ _ h => h); (case hw_175 => rfl); (case hy_175 => (intro w' hSw; (try simp only [S] at hSw); go_simp; (try with_reducible rfl))); (case hs_175 => assumption); (try simp only [Act.put, List.setIfInBounds_toArray, List.set_cons_zero, List.set_cons_succ])
  refine wpAnyH_take (i := 9) (oi := ?oi_176) (v := ?v_176) ?ho_176 ?h1_176 ?h2_176 ?h3_176 ?hq_176 (Or.inl ⟨?hw_176, ?hy_176⟩) ?hs_176 ?rest_176; (case h2_176 => kernel_rfl); (case h3_176 => kernel_rfl); (case ho_176 => (simp only [List.getElem?_toArray, List.getElem?_cons_zero, List.getElem?_cons_succ]; rfl)); (case h1_176 => kernel_rfl); (case hq_176 => exact fun _ _ _ h => h); (case hw_176 => rfl); (case hy_176 => (intro w' hSw; (try simp only [S] at hSw); go_simp; (try with_reducible rfl))); (case hs_176 => assumption); (try simp only [Act.put, List.setIfInBounds_toArray, List.set_cons_zero, List.set_cons_succ])
  refine wpAnyH_take (i := 10) (oi := ?oi_177) (v := ?v_177) ?ho_177 ?h1_177 ?h2_177 ?h3_177 ?hq_177 (Or.inl ⟨?hw_177, ?hy_177⟩) ?hs_177 ?rest_177; (case h2_177 => kernel_rfl); (case h3_177 => kernel_rfl); (case ho_177 => (simp only [List.getElem?_toArray, List.getElem?_cons_zero, List.getElem?_cons_succ]; rfl)); (case h1_177 => kernel_rfl); (case hq_177 => exact fun _ _ _ h => h); (case hw_177 => rfl); (case hy_177 => (intro w' hSw; (try simp only [S] at hSw); go_simp; (try with_reducible rfl))); (case hs_177 => assumption); (try simp only [Act.put, List.setIfInBounds_toArray, List.set_cons_zero, List.set_cons_succ])
  refine wpAnyH_take (i := 11) (oi := ?oi_178) (v := ?v_178) ?ho_178 ?h1_178 ?h2_178 ?h3_178 ?hq_178 (Or.inl ⟨?hw_178, ?hy_178⟩) ?hs_178 ?rest_178; (case h2_178 => kernel_rfl); (case h3_178 => kernel_rfl); (case ho_178 => (simp only [List.getElem?_toArray, List.getElem?_cons_zero, List.getElem?_cons_succ]; rfl)); (case h1_178 => kernel_rfl); (case hq_178 => exact fun _ _ _ h => h); (case hw_178 => rfl); (case hy_178 => (intro w' hSw; (try simp only [S] at hSw); go_simp; (try with_reducible rfl))); (case hs_178 => assumption); (try simp only [Act.put, List.setIfInBounds_toArray, List.set_cons_zero, List.set_cons_succ])
  refine wpAnyH_take (i := 12) (oi := ?oi_179) (v := ?v_179) ?ho_179 ?h1_179 ?h2_179 ?h3_179 ?hq_179 (Or.inl ⟨?hw_179, ?hy_179⟩) ?hs_179 ?rest_179; (case h2_179 => kernel_rfl); (case h3_179 => kernel_rfl); (case ho_179 => (simp only [List.getElem?_toArray, List.getElem?_cons_zero, List.getElem?_cons_succ]; rfl)); (case h1_179 => kernel_rfl); (case hq_179 => exact fun _ _ _ h => h); (case hw_179 => rfl); (case hy_179 => (intro w' hSw; (try simp only [S] at hSw); go_simp; (try with_reducible rfl))); (case hs_179 => assumption); (try simp only [Act.put, List.setIfInBounds_toArray, List.set_cons_zero, List.set_cons_succ])
  refine wpAnyH_take (i := 13) (oi := ?oi_180) (v := ?v_180) ?ho_180 ?h1_180 ?h2_180 ?h3_180 ?hq_180 (Or.inl ⟨?hw_180, ?hy_180⟩) ?hs_180 ?rest_180; (case h2_180 => kernel_rfl); (case h3_180 => kernel_rfl); (case ho_180 => (simp only [List.getElem?_toArray, List.getElem?_cons_zero, List.getElem?_cons_succ]; rfl)); (case h1_180 => kernel_rfl); (case hq_180 => exact fun _ _ _ h => h); (case hw_180 => rfl); (case hy_180 => (intro w' hSw; (try simp only [S] at hSw); go_simp; (try with_reducible rfl))); (case hs_180 => assumption); (try simp only [Act.put, List.setIfInBounds_toArray, List.set_cons_zero, List.set_cons_succ])
  refine wpAnyH_take (i := 14) (oi := ?oi_181) (v := ?v_181) ?ho_181 ?h1_181 ?h2_181 ?h3_181 ?hq_181 (Or.inl ⟨?hw_181, ?hy_181⟩) ?hs_181 ?rest_181; (case h2_181 => kernel_rfl); (case h3_181 => kernel_rfl); (case ho_181 => (simp only [List.getElem?_toArray, List.getElem?_cons_zero, List.getElem?_cons_succ]; rfl)); (case h1_181 => kernel_rfl); (case hq_181 => exact fun _ _ _ h => h); (case hw_181 => rfl); (case hy_181 => (intro w' hSw; (try simp only [S] at hSw); go_simp; (try with_reducible rfl))); (case hs_181 => assumption); (try simp only [Act.put, List.setIfInBounds_toArray, List.set_cons_zero, List.set_cons_succ])
  refine wpAnyH_take (i := 15) (oi := ?oi_182) (v := ?v_182) ?ho_182 ?h1_182 ?h2_182 ?h3_182 ?hq_182 (Or.inl ⟨?hw_182, ?hy_182⟩) ?hs_182 ?rest_182; (case h2_182 => kernel_rfl); (case h3_182 => kernel_rfl); (case ho_182 => (simp only [List.getElem?_toArray, List.getElem?_cons_zero, List.getElem?_cons_succ]; rfl)); (case h1_182 => kernel_rfl); (case hq_182 => exact fun _ _ _ h => h); (case hw_182 => rfl); (case hy_182 => (intro w' hSw; (try simp only [S] at hSw); go_simp; (try with_reducible rfl))); (case hs_182 => assumption); (try simp only [Act.put, List.setIfInBounds_toArray, List.set_cons_zero, List.set_cons_succ])
  refine wpAnyH_take (i := 16) (oi := ?oi_183) (v := ?v_183) ?ho_183 ?h1_183 ?h2_183 ?h3_183 ?hq_183 (Or.inl ⟨?hw_183, ?hy_183⟩) ?hs_183 ?rest_183; (case h2_183 => kernel_rfl); (case h3_183 => kernel_rfl); (case ho_183 => (simp only [List.getElem?_toArray, List.getElem?_cons_zero, List.getElem?_cons_succ]; rfl)); (case h1_183 => kernel_rfl); (case hq_183 => exact fun _ _ _ h => h); (case hw_183 => rfl); (case hy_183 => (intro w' hSw; (try simp only [S] at hSw); go_simp; (try with_reducible rfl))); (case hs_183 => assumption); (try simp only [Act.put, List.setIfInBounds_toArray, List.set_cons_zero, List.set_cons_succ])
  refine wpAnyH_take (i := 17) (oi := ?oi_184) (v := ?v_184) ?ho_184 ?h1_184 ?h2_184 ?h3_184 ?hq_184 (Or.inl ⟨?hw_184, ?hy_184⟩) ?hs_184 ?rest_184; (case h2_184 => kernel_rfl); (case h3_184 => kernel_rfl); (case ho_184 => (simp only [List.getElem?_toArray, List.getElem?_cons_zero, List.getElem?_cons_succ]; rfl)); (case h1_184 => kernel_rfl); (case hq_184 => exact fun _ _ _ h => h); (case hw_184 => rfl); (case hy_184 => (intro w' hSw; (try simp only [S] at hSw); go_simp; (try with_reducible rfl))); (case hs_184 => assumption); (try simp only [Act.put, List.setIfInBounds_toArray, List.set_cons_zero, List.set_cons_succ])
  refine wpAnyH_take (i := 18) (oi := ?oi_185) (v := ?v_185) ?ho_185 ?h1_185 ?h2_185 ?h3_185 ?hq_185 (Or.inl ⟨?hw_185, ?hy_185⟩) ?hs_185 ?rest_185; (case h2_185 => kernel_rfl); (case h3_185 => kernel_rfl); (case ho_185 => (simp only [List.getElem?_toArray, List.getElem?_cons_zero, List.getElem?_cons_succ]; rfl)); (case h1_185 => kernel_rfl); (case hq_185 => exact fun _ _ _ h => h); (case hw_185 => rfl); (case hy_185 => (intro w' hSw; (try simp only [S] at hSw); go_simp; (try with_reducible rfl))); (case hs_185 => assumption); (try simp only [Act.put, List.setIfInBounds_toArray, List.set_cons_zero, List.set_cons_succ])
  refine wpAnyH_take (i := 19) (oi := ?oi_186) (v := ?v_186) ?ho_186 ?h1_186 ?h2_186 ?h3_186 ?hq_186 (Or.inl ⟨?hw_186, ?hy_186⟩) ?hs_186 ?rest_186; (case h2_186 => kernel_rfl); (case h3_186 => kernel_rfl); (case ho_186 => (simp only [List.getElem?_toArray, List.getElem?_cons_zero, List.getElem?_cons_succ]; rfl)); (case h1_186 => kernel_rfl); (case hq_186 => exact fun _ _ _ h => h); (case hw_186 => rfl); (case hy_186 => (intro w' hSw; (try simp only [S] at hSw); go_simp; (try with_reducible rfl))); (case hs_186 => assumption); (try simp only [Act.put, List.setIfInBounds_toArray, List.set_cons_zero, List.set_cons_succ])
  refine wpAnyH_take (i := 20) (oi := ?oi_187) (v := ?v_187) ?ho_187 ?h1_187 ?h2_187 ?h3_187 ?hq_187 (Or.inl ⟨?hw_187, ?hy_187⟩) ?hs_187 ?rest_187; (case h2_187 => kernel_rfl); (case h3_187 => kernel_rfl); (case ho_187 => (simp only [List.getElem?_toArray, List.getElem?_cons_zero, List.getElem?_cons_succ]; rfl)); (case h1_187 => kernel_rfl); (case hq_187 => exact fun _ _ _ h => h); (case hw_187 => rfl); (case hy_187 => (intro w' hSw; (try simp only [S] at hSw); go_simp; (try with_reducible rfl))); (case hs_187 => assumption); (try simp only [Act.put, List.setIfInBounds_toArray, List.set_cons_zero, List.set_cons_succ])
  refine wpAnyH_take (i := 21) (oi := ?oi_188) (v := ?v_188) ?ho_188 ?h1_188 ?h2_188 ?h3_188 ?hq_188 (Or.inl ⟨?hw_188, ?hy_188⟩) ?hs_188 ?rest_188; (case h2_188 => kernel_rfl); (case h3_188 => kernel_rfl); (case ho_188 => (simp only [List.getElem?_toArray, List.getElem?_cons_zero, List.getElem?_cons_succ]; rfl)); (case h1_188 => kernel_rfl); (case hq_188 => exact fun _ _ _ h => h); (case hw_188 => rfl); (case hy_188 => (intro w' hSw; (try simp only [S] at hSw); go_simp; (try with_reducible rfl))); (case hs_188 => assumption); (try simp only [Act.put, List.setIfInBounds_toArray, List.set_cons_zero, List.set_cons_succ])
  refine wpAnyH_take (i := 22) (oi := ?oi_189) (v := ?v_189) ?ho_189 ?h1_189 ?h2_189 ?h3_189 ?hq_189 (Or.inl ⟨?hw_189, ?hy_189⟩) ?hs_189 ?rest_189; (case h2_189 => kernel_rfl); (case h3_189 => kernel_rfl); (case ho_189 => (simp only [List.getElem?_toArray, List.getElem?_cons_zero, List.getElem?_cons_succ]; rfl)); (case h1_189 => kernel_rfl); (case hq_189 => exact fun _ _ _ h => h); (case hw_189 => rfl); (case hy_189 => (intro w' hSw; (try simp only [S] at hSw); go_simp; (try with_reducible rfl))); (case hs_189 => assumption); (try simp only [Act.put, List.setIfInBounds_toArray, List.set_cons_zero, List.set_cons_succ])
  refine wpAnyH_take (i := 23) (oi := ?oi_190) (v := ?v_190) ?ho_190 ?h1_190 ?h2_190 ?h3_190 ?hq_190 (Or.inl ⟨?hw_190, ?hy_190⟩) ?hs_190 ?rest_190; (case h2_190 => kernel_rfl); (case h3_190 => kernel_rfl); (case ho_190 => (simp only [List.getElem?_toArray, List.getElem?_cons_zero, List.getElem?_cons_succ]; rfl)); (case h1_190 => kernel_rfl); (case hq_190 => exact fun _ _ _ h => h); (case hw_190 => rfl); (case hy_190 => (intro w' hSw; (try simp only [S] at hSw); go_simp; (try with_reducible rfl))); (case hs_190 => assumption); (try simp only [Act.put, List.setIfInBounds_toArray, List.set_cons_zero, List.set_cons_succ])
  refine wpAnyH_take (i := 24) (oi := ?oi_203) (v := ?v_203) ?ho_203 ?h1_203 ?h2_203 ?h3_203 ?hq_203 (Or.inl ⟨?hw_203, ?hy_203⟩) ?hs_203 ?rest_203; (case h2_203 => kernel_rfl); (case h3_203 => kernel_rfl); (case ho_203 => (simp only [List.getElem?_toArray, List.getElem?_cons_zero, List.getElem?_cons_succ]; rfl)); (case h1_203 => kernel_rfl); (case hq_203 => exact fun _ _ _ h => h); (case hw_203 => rfl); (case hy_203 => (intro w' hSw; refine exec_built (t := 43) (cs := c3) (parts := #[(0, .tmp 20), (1, .tmp 30), (5, .tmp 34)]) ?_ ?_ w'; exact rfl; simp only [List.map_toArray, List.map_cons, List.map_nil]; exact hbt)); (case hs_203 => assumption); (try simp only [Act.put, List.setIfInBounds_toArray, List.set_cons_zero, List.set_cons_succ])
  refine wpAnyH_ready (rs := [25]) (by kernel_rfl) (by simp) (AllReadyH.cons (o := ?oo25_204) ?hoo25_204 (fun K hK => ?steponly204) AllReadyH.nil); (case hoo25_204 => (simp only [List.getElem?_toArray, List.getElem?_cons_zero, List.getElem?_cons_succ]; rfl))
  refine step_new rfl hz rfl ?_
  refine hK.out _ _ (hSS _ ((Below.refl _ W).drew.alloc (Nat.le_refl _) _)) (fun _ => ?_)
  clear hK K
  (try simp only [Act.put, List.setIfInBounds_toArray, List.set_cons_zero, List.set_cons_succ])
  refine wpAnyH_ready (rs := [26]) (by kernel_rfl) (by simp) (AllReadyH.cons (o := ?oo26_205) ?hoo26_205 (fun K hK => ?steponly205) AllReadyH.nil); (case hoo26_205 => (simp only [List.getElem?_toArray, List.getElem?_cons_zero, List.getElem?_cons_succ]; rfl))
  refine step_row rfl 43 (.tmp 4) (.tmp 35) rfl W.heap.size c3 rfl rfl _ z.toArray (heap_alloc_new W.drew _) hii3 hsz3 hone3' ?_
  have hbV : Below W.heap.size W ((W.drew.alloc (.cells z.toArray 43)).setRow W.heap.size c3) := bSetRow ((Below.refl _ W).drew.alloc (Nat.le_refl _) _) (Nat.le_refl _) _
  refine hK.out _ _ (hSS _ hbV) (fun _ => ?_)
  clear hK K
  (try simp only [Act.put, List.setIfInBounds_toArray, List.set_cons_zero, List.set_cons_succ])
  refine wpAnyH_done (by kernel_rfl) ?_ _
  have b4 : ((W.drew.alloc (.cells z.toArray 43)).setRow W.heap.size c3).heap[W.heap.size]? = some (.cells c3 43) := setRow_heap _ _ _ _ _ _ (heap_alloc_new W.drew _)
  clear hSS hS0 w0 w1 w2 w3 w4 w5 w6 w7 w8 l0 l1 l2 l3 l4 hbt
  have hBX0 : But w.heap.size (fun k => k = W.heap.size) w ((W.drew.alloc (.cells z.toArray 43)).setRow W.heap.size c3) := but_of (hBW.trans (hbV.mono hBW.size))
  replace a2 := bBlk hbV hzW a2
  replace r1 := bRange hbV (by omega) r1
  replace r2 := bRange hbV (by omega) r2
  replace r3 := bRange hbV (by omega) r3
  clear hbV
  have hne : b ≠ W.heap.size := by omega
  generalize (W.drew.alloc (.cells z.toArray 43)).setRow W.heap.size c3 = Y0 at *
  clear hBW
  let S : World → Prop := fun _ => True
  have hcopy := fun ty => run_copy_cells (P := Try.prog) Y0.drew 24 24 ty 5 W.heap.size 2 32 32 ⟨b, o + 5, none⟩ 32 (c - 5) (bvs r.src) Try.underlying24 (by kernel_rfl) (by rw [bvs_len, hsl]; rfl) (fun j v hj => by rw [addr_add]; exact r1 j v hj)
    (fun j hj => ((there_blk (W := Y0.drew) b4 (o := 2) (n := 32) (by (try simp only [setMany_size]); rw [h3s]; omega)) j (by rw [bvs_len, hsl] at hj; exact hj)).1) (fun j hj => blk_frozen (W := Y0.drew) b4 _) (oneCell_bvs _)
  rw [bvs_len, hsl] at hcopy
  replace b4 := blk_sets (bvs r.src) 2 (W := Y0.drew) b4
  replace a2 := (sets_far (bvs r.src) Y0.drew W.heap.size 2 w.heap.size (by omega)).trans a2
  replace hBX0 : But w.heap.size (fun k => k = W.heap.size) w (Y0.drew.setCells W.heap.size 2 (bvs r.src)) := but_sets (X := fun k => k = W.heap.size) _ _ _ hBX0.drew rfl
  replace r2 := World.rangeAt_setCells_apart (w := Y0.drew) r2 W.heap.size 2 (bvs r.src) (.inl hne)
  replace r3 := World.rangeAt_setCells_apart (w := Y0.drew) r3 W.heap.size 2 (bvs r.src) (.inl hne)
  go_upto_region 4 with (fail)
  refine wp_region_held (S := S) (by kernel_rfl) ?_
  change wpAnyH _ _ _ _ S _ _ _ Y0.drew
  have hS1 : S Y0.drew := trivial
  refine wpAnyH_take (i := 0) (oi := ?oi_191) (v := ?v_191) ?ho_191 ?h1_191 ?h2_191 ?h3_191 ?hq_191 (Or.inl ⟨?hw_191, ?hy_191⟩) ?hs_191 ?rest_191; (case h2_191 => kernel_rfl); (case h3_191 => kernel_rfl); (case ho_191 => (simp only [List.getElem?_toArray, List.getElem?_cons_zero, List.getElem?_cons_succ]; rfl)); (case h1_191 => kernel_rfl); (case hq_191 => exact fun _ _ _ h => h); (case hw_191 => rfl); (case hy_191 => (intro w' hSw; (try simp only [S] at hSw); go_simp; (try with_reducible rfl))); (case hs_191 => assumption); (try simp only [Act.put, List.setIfInBounds_toArray, List.set_cons_zero, List.set_cons_succ])
  refine wpAnyH_take (i := 1) (oi := ?oi_192) (v := ?v_192) ?ho_192 ?h1_192 ?h2_192 ?h3_192 ?hq_192 (Or.inl ⟨?hw_192, ?hy_192⟩) ?hs_192 ?rest_192; (case h2_192 => kernel_rfl); (case h3_192 => kernel_rfl); (case ho_192 => (simp only [List.getElem?_toArray, List.getElem?_cons_zero, List.getElem?_cons_succ]; rfl)); (case h1_192 => kernel_rfl); (case hq_192 => exact fun _ _ _ h => h); (case hw_192 => rfl); (case hy_192 => (intro w' hSw; (try simp only [S] at hSw); go_simp; (try with_reducible rfl))); (case hs_192 => assumption); (try simp only [Act.put, List.setIfInBounds_toArray, List.set_cons_zero, List.set_cons_succ])
  refine wpAnyH_take (i := 2) (oi := ?oi_193) (v := ?v_193) ?ho_193 ?h1_193 ?h2_193 ?h3_193 ?hq_193 (Or.inl ⟨?hw_193, ?hy_193⟩) ?hs_193 ?rest_193; (case h2_193 => kernel_rfl); (case h3_193 => kernel_rfl); (case ho_193 => (simp only [List.getElem?_toArray, List.getElem?_cons_zero, List.getElem?_cons_succ]; rfl)); (case h1_193 => kernel_rfl); (case hq_193 => exact fun _ _ _ h => h); (case hw_193 => rfl); (case hy_193 => (intro w' hSw; (try simp only [S] at hSw); go_simp; (try with_reducible rfl))); (case hs_193 => assumption); (try simp only [Act.put, List.setIfInBounds_toArray, List.set_cons_zero, List.set_cons_succ])
  refine wpAnyH_take (i := 3) (oi := ?oi_194) (v := ?v_194) ?ho_194 ?h1_194 ?h2_194 ?h3_194 ?hq_194 (Or.inl ⟨?hw_194, ?hy_194⟩) ?hs_194 ?rest_194; (case h2_194 => kernel_rfl); (case h3_194 => kernel_rfl); (case ho_194 => (simp only [List.getElem?_toArray, List.getElem?_cons_zero, List.getElem?_cons_succ]; rfl)); (case h1_194 => kernel_rfl); (case hq_194 => exact fun _ _ _ h => h); (case hw_194 => rfl); (case hy_194 => (intro w' hSw; (try simp only [S] at hSw); go_simp; (try with_reducible rfl))); (case hs_194 => assumption); (try simp only [Act.put, List.setIfInBounds_toArray, List.set_cons_zero, List.set_cons_succ])
  refine wpAnyH_ready (rs := [4]) (by kernel_rfl) (by simp) (AllReadyH.cons (o := ?oo4_206) ?hoo4_206 (fun K hK => ?steponly206) AllReadyH.nil); (case hoo4_206 => (simp only [List.getElem?_toArray, List.getElem?_cons_zero, List.getElem?_cons_succ]; rfl))
  go_simp
  refine hK.out _ _ trivial (fun _ => ?_)
  clear hK K hcopy hS1
  (try simp only [Act.put, List.setIfInBounds_toArray, List.set_cons_zero, List.set_cons_succ])
  refine wpAnyH_done (by kernel_rfl) ?_ _
  generalize Y0.drew.setCells W.heap.size 2 (bvs r.src) = Y1 at *
  have hcopy := fun ty => run_copy_cells (P := Try.prog) Y1.drew 24 24 ty 5 W.heap.size 34 32 32 ⟨b, o + 37, none⟩ 32 (c - 37) (bvs r.sty) Try.underlying24 (by kernel_rfl) (by rw [bvs_len, htl]; rfl) (fun j v hj => by rw [addr_add]; exact r2 j v hj)
    (fun j hj => ((there_blk (W := Y1.drew) b4 (o := 34) (n := 32) (by (try simp only [setMany_size]); rw [h3s]; omega)) j (by rw [bvs_len, htl] at hj; exact hj)).1) (fun j hj => blk_frozen (W := Y1.drew) b4 _) (oneCell_bvs _)
  rw [bvs_len, htl] at hcopy
  replace b4 := blk_sets (bvs r.sty) 34 (W := Y1.drew) b4
  replace a2 := (sets_far (bvs r.sty) Y1.drew W.heap.size 34 w.heap.size (by omega)).trans a2
  replace hBX0 : But w.heap.size (fun k => k = W.heap.size) w (Y1.drew.setCells W.heap.size 34 (bvs r.sty)) := but_sets (X := fun k => k = W.heap.size) _ _ _ hBX0.drew rfl
  replace r3 := World.rangeAt_setCells_apart (w := Y1.drew) r3 W.heap.size 34 (bvs r.sty) (.inl hne)
  go_upto_region 5 with (fail)
  refine wp_region_held (S := S) (by kernel_rfl) ?_
  change wpAnyH _ _ _ _ S _ _ _ Y1.drew
  have hS2 : S Y1.drew := trivial
  refine wpAnyH_take (i := 0) (oi := ?oi_195) (v := ?v_195) ?ho_195 ?h1_195 ?h2_195 ?h3_195 ?hq_195 (Or.inl ⟨?hw_195, ?hy_195⟩) ?hs_195 ?rest_195; (case h2_195 => kernel_rfl); (case h3_195 => kernel_rfl); (case ho_195 => (simp only [List.getElem?_toArray, List.getElem?_cons_zero, List.getElem?_cons_succ]; rfl)); (case h1_195 => kernel_rfl); (case hq_195 => exact fun _ _ _ h => h); (case hw_195 => rfl); (case hy_195 => (intro w' hSw; (try simp only [S] at hSw); go_simp; (try with_reducible rfl))); (case hs_195 => assumption); (try simp only [Act.put, List.setIfInBounds_toArray, List.set_cons_zero, List.set_cons_succ])
  refine wpAnyH_take (i := 1) (oi := ?oi_196) (v := ?v_196) ?ho_196 ?h1_196 ?h2_196 ?h3_196 ?hq_196 (Or.inl ⟨?hw_196, ?hy_196⟩) ?hs_196 ?rest_196; (case h2_196 => kernel_rfl); (case h3_196 => kernel_rfl); (case ho_196 => (simp only [List.getElem?_toArray, List.getElem?_cons_zero, List.getElem?_cons_succ]; rfl)); (case h1_196 => kernel_rfl); (case hq_196 => exact fun _ _ _ h => h); (case hw_196 => rfl); (case hy_196 => (intro w' hSw; (try simp only [S] at hSw); go_simp; (try with_reducible rfl))); (case hs_196 => assumption); (try simp only [Act.put, List.setIfInBounds_toArray, List.set_cons_zero, List.set_cons_succ])
  refine wpAnyH_take (i := 2) (oi := ?oi_197) (v := ?v_197) ?ho_197 ?h1_197 ?h2_197 ?h3_197 ?hq_197 (Or.inl ⟨?hw_197, ?hy_197⟩) ?hs_197 ?rest_197; (case h2_197 => kernel_rfl); (case h3_197 => kernel_rfl); (case ho_197 => (simp only [List.getElem?_toArray, List.getElem?_cons_zero, List.getElem?_cons_succ]; rfl)); (case h1_197 => kernel_rfl); (case hq_197 => exact fun _ _ _ h => h); (case hw_197 => rfl); (case hy_197 => (intro w' hSw; (try simp only [S] at hSw); go_simp; (try with_reducible rfl))); (case hs_197 => assumption); (try simp only [Act.put, List.setIfInBounds_toArray, List.set_cons_zero, List.set_cons_succ])
  refine wpAnyH_take (i := 3) (oi := ?oi_198) (v := ?v_198) ?ho_198 ?h1_198 ?h2_198 ?h3_198 ?hq_198 (Or.inl ⟨?hw_198, ?hy_198⟩) ?hs_198 ?rest_198; (case h2_198 => kernel_rfl); (case h3_198 => kernel_rfl); (case ho_198 => (simp only [List.getElem?_toArray, List.getElem?_cons_zero, List.getElem?_cons_succ]; rfl)); (case h1_198 => kernel_rfl); (case hq_198 => exact fun _ _ _ h => h); (case hw_198 => rfl); (case hy_198 => (intro w' hSw; (try simp only [S] at hSw); go_simp; (try with_reducible rfl))); (case hs_198 => assumption); (try simp only [Act.put, List.setIfInBounds_toArray, List.set_cons_zero, List.set_cons_succ])
  refine wpAnyH_ready (rs := [4]) (by kernel_rfl) (by simp) (AllReadyH.cons (o := ?oo4_207) ?hoo4_207 (fun K hK => ?steponly207) AllReadyH.nil); (case hoo4_207 => (simp only [List.getElem?_toArray, List.getElem?_cons_zero, List.getElem?_cons_succ]; rfl))
  go_simp
  refine hK.out _ _ trivial (fun _ => ?_)
  clear hK K hcopy hS2
  (try simp only [Act.put, List.setIfInBounds_toArray, List.set_cons_zero, List.set_cons_succ])
  refine wpAnyH_done (by kernel_rfl) ?_ _
  generalize Y1.drew.setCells W.heap.size 34 (bvs r.sty) = Y2 at *
  have hcopy := fun ty => run_copy_cells (P := Try.prog) Y2.drew 24 24 ty 5 W.heap.size 66 32 32 ⟨b, o + 69, none⟩ 32 (c - 69) (bvs r.tre) Try.underlying24 (by kernel_rfl) (by rw [bvs_len, hul]; rfl) (fun j v hj => by rw [addr_add]; exact r3 j v hj)
    (fun j hj => ((there_blk (W := Y2.drew) b4 (o := 66) (n := 32) (by (try simp only [setMany_size]); rw [h3s]; omega)) j (by rw [bvs_len, hul] at hj; exact hj)).1) (fun j hj => blk_frozen (W := Y2.drew) b4 _) (oneCell_bvs _)
  rw [bvs_len, hul] at hcopy
  replace b4 := blk_sets (bvs r.tre) 66 (W := Y2.drew) b4
  replace a2 := (sets_far (bvs r.tre) Y2.drew W.heap.size 66 w.heap.size (by omega)).trans a2
  replace hBX0 : But w.heap.size (fun k => k = W.heap.size) w (Y2.drew.setCells W.heap.size 66 (bvs r.tre)) := but_sets (X := fun k => k = W.heap.size) _ _ _ hBX0.drew rfl
  go_upto_region 6 with (fail)
  refine wp_region_held (S := S) (by kernel_rfl) ?_
  change wpAnyH _ _ _ _ S _ _ _ Y2.drew
  have hS3 : S Y2.drew := trivial
  refine wpAnyH_take (i := 0) (oi := ?oi_199) (v := ?v_199) ?ho_199 ?h1_199 ?h2_199 ?h3_199 ?hq_199 (Or.inl ⟨?hw_199, ?hy_199⟩) ?hs_199 ?rest_199; (case h2_199 => kernel_rfl); (case h3_199 => kernel_rfl); (case ho_199 => (simp only [List.getElem?_toArray, List.getElem?_cons_zero, List.getElem?_cons_succ]; rfl)); (case h1_199 => kernel_rfl); (case hq_199 => exact fun _ _ _ h => h); (case hw_199 => rfl); (case hy_199 => (intro w' hSw; (try simp only [S] at hSw); go_simp; (try with_reducible rfl))); (case hs_199 => assumption); (try simp only [Act.put, List.setIfInBounds_toArray, List.set_cons_zero, List.set_cons_succ])
  refine wpAnyH_take (i := 1) (oi := ?oi_200) (v := ?v_200) ?ho_200 ?h1_200 ?h2_200 ?h3_200 ?hq_200 (Or.inl ⟨?hw_200, ?hy_200⟩) ?hs_200 ?rest_200; (case h2_200 => kernel_rfl); (case h3_200 => kernel_rfl); (case ho_200 => (simp only [List.getElem?_toArray, List.getElem?_cons_zero, List.getElem?_cons_succ]; rfl)); (case h1_200 => kernel_rfl); (case hq_200 => exact fun _ _ _ h => h); (case hw_200 => rfl); (case hy_200 => (intro w' hSw; (try simp only [S] at hSw); go_simp; (try with_reducible rfl))); (case hs_200 => assumption); (try simp only [Act.put, List.setIfInBounds_toArray, List.set_cons_zero, List.set_cons_succ])
  refine wpAnyH_take (i := 2) (oi := ?oi_201) (v := ?v_201) ?ho_201 ?h1_201 ?h2_201 ?h3_201 ?hq_201 (Or.inl ⟨?hw_201, ?hy_201⟩) ?hs_201 ?rest_201; (case h2_201 => kernel_rfl); (case h3_201 => kernel_rfl); (case ho_201 => (simp only [List.getElem?_toArray, List.getElem?_cons_zero, List.getElem?_cons_succ]; rfl)); (case h1_201 => kernel_rfl); (case hq_201 => exact fun _ _ _ h => h); (case hw_201 => rfl); (case hy_201 => (intro w' hSw; (try simp only [S] at hSw); go_simp; (try with_reducible rfl))); (case hs_201 => assumption); (try simp only [Act.put, List.setIfInBounds_toArray, List.set_cons_zero, List.set_cons_succ])
  refine wpAnyH_take (i := 3) (oi := ?oi_202) (v := ?v_202) ?ho_202 ?h1_202 ?h2_202 ?h3_202 ?hq_202 (Or.inl ⟨?hw_202, ?hy_202⟩) ?hs_202 ?rest_202; (case h2_202 => kernel_rfl); (case h3_202 => kernel_rfl); (case ho_202 => (simp only [List.getElem?_toArray, List.getElem?_cons_zero, List.getElem?_cons_succ]; rfl)); (case h1_202 => kernel_rfl); (case hq_202 => exact fun _ _ _ h => h); (case hw_202 => rfl); (case hy_202 => (intro w' hSw; (try simp only [S] at hSw); go_simp; (try with_reducible rfl))); (case hs_202 => assumption); (try simp only [Act.put, List.setIfInBounds_toArray, List.set_cons_zero, List.set_cons_succ])
  refine wpAnyH_ready (rs := [4]) (by kernel_rfl) (by simp) (AllReadyH.cons (o := ?oo4_208) ?hoo4_208 (fun K hK => ?steponly208) AllReadyH.nil); (case hoo4_208 => (simp only [List.getElem?_toArray, List.getElem?_cons_zero, List.getElem?_cons_succ]; rfl))
  go_simp
  refine hK.out _ _ trivial (fun _ => ?_)
  clear hK K hcopy hS3
  (try simp only [Act.put, List.setIfInBounds_toArray, List.set_cons_zero, List.set_cons_succ])
  refine wpAnyH_done (by kernel_rfl) ?_ _
  generalize Y2.drew.setCells W.heap.size 66 (bvs r.tre) = Y3 at *
  rw [HF.out] at b4
  have hBc := hBX0.below (Nat.le_refl _) (fun k e => by omega)
  have b2 := a2
  have hrr := rrev_any hrev
  unfold rvv EncP at hrr
  clear hBX0 a2 c5 c37 c69 i37 i69 i101
  go_wp2_with (first
    | (refine wpList_load_row rfl 43 (.tmp 4) rfl _ rfl _ r.cells.toArray (0, 0) _ b4 Try.underlying43 rfl hii ?_)
    | fail)
  refine Calls.mono (hrr _) ?_
  rintro e X ⟨A2, n2, cc2, rfl, -, -, -, -, -, hbX⟩
  have y4 := bBlk hbX (Array.getElem?_eq_some_iff.1 b4).1 b4
  have y2 := bBlk hbX (Array.getElem?_eq_some_iff.1 b2).1 b2
  have hBX := hBc.trans (hbX.mono hBc.size)
  clear hrr hbX b4 b2 hBc
  obtain ⟨V, hV1⟩ : ∃ V, X.setRow w.heap.size z.toArray = V := ⟨_, rfl⟩
  have v2 : V.heap[w.heap.size]? = some (.cells z.toArray 43) := by rw [← hV1]; exact setRow_heap _ _ _ _ _ _ y2
  have hBV : Below w.heap.size w V := by rw [← hV1]; exact bSetRow hBX (Nat.le_refl _) _
  obtain ⟨U, hU1⟩ : ∃ V, X.setRow w.heap.size r.cells.toArray = V := ⟨_, rfl⟩
  have u2 : U.heap[w.heap.size]? = some (.cells r.cells.toArray 43) := by rw [← hU1]; exact setRow_heap _ _ _ _ _ _ y2
  have hBU : Below w.heap.size w U := by rw [← hU1]; exact bSetRow hBX (Nat.le_refl _) _
  have hldV := run_loadVar_row (P := Try.prog) V _ _ 43 _ _ _ v2 Try.underlying43 rfl hin
  have hldU := run_loadVar_row (P := Try.prog) U _ _ 43 _ _ _ u2 Try.underlying43 rfl hii
  obtain ⟨g, hg⟩ : ∃ g, r.good = g := ⟨_, rfl⟩
  rw [hg] at hR
  have HB := Lib.hid (And.intro hBV hBU)
  clear hBV hBU hBX v2 u2
  rw [hg]
  have HG := Lib.hid hg
  clear hg
  cases g
  · rw [show erF false = 11 from rfl]
    clear hldU hU1
    go_wp2_with (first
      | (refine wpList_built rfl 43 #[] rfl (cs := z.toArray) (by simp only [List.map_toArray, List.map_nil]; exact hb0) ?_)
      | (refine wpList_store_row rfl 43 (.tmp 2) (.tmp 58) rfl _ z.toArray rfl rfl _ z.toArray y2 hin rfl (all_oneCell_toArray hone) ?_)
      | fail)
    try rw [hV1]
    refine bodyPost_ret (by simp [results, Try.results23, Act.put, asAddr, Result.andThen, hldV]; try rfl) rfl ?_
    exact Ret.mk (by rw [hV.out, hR.out]; simp only [Bool.false_eq_true, if_false, HZ.out, erF]) HB.out.1
  · rw [show erF true = 0 from rfl]
    clear hldV hV1
    go_wp2_with (first
      | (refine wpList_load_row rfl 43 (.tmp 4) rfl _ rfl _ r.cells.toArray (0, 0) _ y4 Try.underlying43 rfl hii ?_)
      | (refine wpList_store_row rfl 43 (.tmp 2) (.tmp 59) rfl _ r.cells.toArray rfl rfl _ z.toArray y2 hii hsz (all_oneCell_toArray hone2) ?_)
      | fail)
    try rw [hU1]
    refine bodyPost_ret (by simp [results, Try.results23, Act.put, asAddr, Result.andThen, hldU]; try rfl) rfl ?_
    exact Ret.mk (by rw [hV.out, hR.out]; simp only [if_true, erF]) HB.out.2
end Go.Proofs.Ytjfkaebikmnnaaa
