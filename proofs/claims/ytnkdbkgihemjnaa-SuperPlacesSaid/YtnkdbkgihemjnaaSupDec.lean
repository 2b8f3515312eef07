/- The walk over super.Decode. -/
import Derived.Test.YtnkdbkgihemjnaaSupREnc
namespace Go.Proofs.Ytnkdbkgihemjnaa
set_option linter.unusedSimpArgs false
set_option linter.unusedVariables false
open Go.RowKit Go.ChangeShapes Go.WideShapes Go.Sort

theorem or_shift {a b k M : Nat} (hM : M = 2 ^ k) (hb : b < M) (h : a * M + b < 4294967296) : bits .or .u32 ((a * M : Nat) : Int) (b : Int) = ((a * M + b : Nat) : Int) := by
  rw [u32_or_nat _ _ (by omega) (by omega)]
  congr 1
  subst hM
  rw [Nat.mul_comm]
  exact (Nat.two_pow_add_eq_or_of_lt hb a).symm
theorem or4 (a b c d : Nat) (ha : a < 256) (hb : b < 256) (hc : c < 256) (hd : d < 256) :
    bits .or .u32 (bits .or .u32 (bits .or .u32 ((a : Int) * 16777216) ((b : Int) * 65536)) ((c : Int) * 256)) (d : Int) = ((a * 16777216 + b * 65536 + c * 256 + d : Nat) : Int) := by
  have i1 : ((a : Int) * 16777216) = ((a * 16777216 : Nat) : Int) := by omega
  have i2 : ((b : Int) * 65536) = ((b * 65536 : Nat) : Int) := by omega
  have i3 : ((c : Int) * 256) = ((c * 256 : Nat) : Int) := by omega
  have j1 : a * 16777216 + b * 65536 = (a * 256 + b) * 65536 := by simp only [Nat.add_mul, Nat.mul_assoc, Nat.reduceMul]
  have j2 : (a * 256 + b) * 65536 + c * 256 = (a * 65536 + b * 256 + c) * 256 := by simp only [Nat.add_mul, Nat.mul_assoc, Nat.reduceMul]
  have j3 : (a * 65536 + b * 256 + c) * 256 + d = a * 16777216 + b * 65536 + c * 256 + d := by simp only [Nat.add_mul, Nat.mul_assoc, Nat.reduceMul]
  have e1 := or_shift (a := a) (b := b * 65536) (k := 24) (M := 16777216) (by decide) (by omega) (by omega)
  have e2 := or_shift (a := a * 256 + b) (b := c * 256) (k := 16) (M := 65536) (by decide) (by omega) (by omega)
  have e3 := or_shift (a := a * 65536 + b * 256 + c) (b := d) (k := 8) (M := 256) (by decide) (by omega) (by omega)
  rw [i1, i2, i3, e1, j1, e2, j2, e3, j3]
theorem run_arrayAt {P : Program} {t e : TypeId} {n : Nat} (hu : P.underlying t = some (.array n e)) (a : Addr) (len c : Nat) (h : n ≤ len) (w : World) : (Instr.arrayAt t (.slice (some a) len c)).run P w = .ok (.pointer (some a)) w := by
  unfold Instr.arrayAt
  simp only [Sem.run_bind, run_underlying hu, Result.andThen_ok]
  rw [if_neg (by omega)]
  rfl
theorem spZ : ZeroIs Try.prog 38 sp0.cells.toArray := by
  unfold ZeroIs
  rw [List.size_toArray, sp0_ok.len]
  kernel_rfl
def sp3 (g : Nat) (b r : Int) : SP := ⟨g, b, r, List.replicate 32 0, List.replicate 16 0⟩
theorem sp3_ok {g : Nat} {b r : Int} (hg : g < 4294967296) (hb : -9223372036854775808 ≤ b ∧ b ≤ 9223372036854775807) (hr : -9223372036854775808 ≤ r ∧ r ≤ 9223372036854775807) : (sp3 g b r).Ok := ⟨hg, hb, hr, by simp [sp3], by simp [sp3]⟩
theorem one_sp (s : SP) : ∀ u ∈ s.cells, u.oneCell' = true := fun u hu => by
  unfold SP.cells at hu
  simp only [List.mem_cons, List.mem_append] at hu
  rcases hu with rfl | rfl | rfl | h | h
  · rfl
  · rfl
  · rfl
  · exact oneCell_bvs _ u h
  · exact oneCell_bvs _ u h
theorem built_sp3 (g : Nat) (b r : Int) : Try.prog.built 38 [(0, .int .u32 (g : Int)), (1, .int .i64 b), (2, .int .i64 r)] = some (sp3 g b r).cells.toArray := by kernel_rfl
theorem built_sp0 : Try.prog.built 38 [] = some sp0.cells.toArray := by kernel_rfl

theorem step_store_mid {P : Program} {ops : Array Oper} {o : Oper} {a : Act} {w : World} {K : Act → World → Prop} {Q : Exit → Act → World → Prop} {E : Prop} (hgd : o.guard = none) (ty : TypeId) (x y : Operand) (ho : o.op = .store ty x y)
    (g off : Nat) (cells : Array Value) (hx : a.eval x = .pointer (some ⟨g, off, none⟩)) (hy : a.eval y = .agg cells)
    (ht : w.there g off cells.size) (hi : (P.info? ty).map (·.size) = some cells.size) (h1 : cells.all (·.oneCell') = true)
    (h : K (a.put o.dst undef) (w.setCells g off cells.toList)) : if Region.wanted o (yielded ops a.tmps) = true then Oper.wp P o a w K Q else E := by
  have hw : Region.wanted o (yielded ops a.tmps) = true := by simp [Region.wanted, hgd]
  rw [if_pos hw]
  exact wp_store_mid ty x y ho g off cells hx hy ht hi h1 h
theorem setMany_mid {x y z v : List Value} (h : y.length = v.length) : setMany (x ++ y ++ z).toArray x.length v = (x ++ v ++ z).toArray := by
  rw [setMany_list _ _ _ (by simp; omega)]
  congr 1
  rw [List.append_assoc x y z, List.take_left, ← List.drop_drop, List.drop_left, ← h, List.drop_left]
theorem setMany_size : ∀ (vs : List Value) (cs : Array Value) (o : Nat), (setMany cs o vs).size = cs.size
  | [], cs, o => rfl
  | v :: vs, cs, o => by rw [setMany, setMany_size vs]; simp
theorem sp_fill (g : Nat) (b r : Int) {L U : List UInt8} (hL : L.length = 32) (hU : U.length = 16) :
    setMany (setMany (sp3 g b r).cells.toArray 3 (bvs L)) 35 (bvs U) = (SP.mk g b r L U).cells.toArray ∧ setMany (setMany (sp3 g b r).cells.toArray 35 (bvs U)) 3 (bvs L) = (SP.mk g b r L U).cells.toArray := by
  have e0 : (sp3 g b r).cells = [.int .u32 (g : Int), .int .i64 b, .int .i64 r] ++ bvs (List.replicate 32 0) ++ bvs (List.replicate 16 0) := rfl
  have e1 : (SP.mk g b r L U).cells = [.int .u32 (g : Int), .int .i64 b, .int .i64 r] ++ bvs L ++ bvs U := rfl
  have l32 : (bvs (List.replicate 32 0)).length = (bvs L).length := by rw [bvs_len, bvs_len, hL]; rfl
  have l16 : (bvs (List.replicate 16 0)).length = (bvs U).length := by rw [bvs_len, bvs_len, hU]; rfl
  rw [e0, e1]
  generalize hZ : bvs (List.replicate 32 0) = Z at *
  generalize hY : bvs (List.replicate 16 0) = Y at *
  have hz : Z.length = 32 := by rw [l32, bvs_len, hL]
  generalize hH : [Value.int .u32 (g : Int), .int .i64 b, .int .i64 r] = H at *
  have h3 : H.length = 3 := by rw [← hH]; rfl
  have a1 := setMany_mid (x := H) (z := Y) l32
  have a2 := setMany_mid (x := H ++ bvs L) (z := []) l16
  have b1 := setMany_mid (x := H ++ Z) (z := []) l16
  have b2 := setMany_mid (x := H) (z := bvs U) l32
  rw [h3] at a1 b2
  rw [List.length_append, h3, bvs_len, hL, List.append_nil, List.append_nil] at a2
  rw [List.length_append, h3, hz, List.append_nil, List.append_nil] at b1
  exact ⟨by rw [a1, a2], by rw [b1, b2]⟩
theorem bk_neq {x y : Blk} (hx : x.length = 128) (hy : y.length = 128) (w : World) : (Op.equalIn 10000 40 (.agg (bvs x).toArray) (.agg (bvs y).toArray)).run Try.prog w = .ok (x == y) w := bk_eq hx hy w

attribute [-go_sem] Builtin.append_
set_option maxHeartbeats 8000000 in
set_option maxRecDepth 100000 in
theorem decode_any {b : Blk} (hb : b.length = 128) (w : World) : Calls Try.prog 47 #[bkv b] w (Ret w (.tuple #[spv (decS b), .int .i64 (decE b)])) := by
  unfold spv bkv
  go_enter Try.func47, Try.ntmps47
  go_upto_region 1 with (first | (refine wpList_new rfl spZ rfl ?_) | fail)
  obtain ⟨W, hW⟩ : ∃ W, (w.alloc (.cells (bvs b).toArray 40)).alloc (.cells sp0.cells.toArray 38) = W := ⟨_, rfl⟩
  simp only [hW]
  have b1 : W.heap[w.heap.size]? = some (.cells (bvs b).toArray 40) := by rw [← hW]; exact (Below.heap_alloc _ _ _ (by simp)).trans (heap_alloc_new _ _)
  have b2 : W.heap[w.heap.size + 1]? = some (.cells sp0.cells.toArray 38) := by rw [← hW]; exact heap_alloc_two _ _ _
  have hB : Below w.heap.size w W := by rw [← hW]; exact ((Below.refl _ _).alloc (Nat.le_refl _) _).alloc (by simp) _
  clear hW
  have hat : ∀ i, i < 128 → W.cell? ⟨w.heap.size, i, none⟩ = some (.int .u8 ((at8 b i).toNat : Int)) := fun i hi => blk_cell b1 (by
    unfold at8
    rw [List.getElem?_eq_getElem (by omega)]
    simp [bvs, bv, hb, hi])
  have k1 := hat 1 (by omega)
  have k2 := hat 2 (by omega)
  have k3 := hat 3 (by omega)
  have k4 := hat 4 (by omega)
  have k5 := hat 5 (by omega)
  have k6 := hat 6 (by omega)
  have l1 := (at8 b 1).toNat_lt
  have l2 := (at8 b 2).toNat_lt
  have l3 := (at8 b 3).toNat_lt
  have l4 := (at8 b 4).toNat_lt
  have l5 := (at8 b 5).toNat_lt
  have l6 := (at8 b 6).toNat_lt
  clear hat
  refine wp_region_lit ?_
  iterate 72 (first | go_guarded | go_step)
  have l5' : -9223372036854775808 ≤ (((at8 b 5).toNat : Nat) : Int) ∧ (((at8 b 5).toNat : Nat) : Int) ≤ 9223372036854775807 := by omega
  have l6' : -9223372036854775808 ≤ (((at8 b 6).toNat : Nat) : Int) ∧ (((at8 b 6).toNat : Nat) : Int) ≤ 9223372036854775807 := by omega
  obtain ⟨G, hG⟩ : ∃ G : Nat, (at8 b 1).toNat * 16777216 + (at8 b 2).toNat * 65536 + (at8 b 3).toNat * 256 + (at8 b 4).toNat = G := ⟨_, rfl⟩
  have hG5 : G < 4294967296 := by omega
  have hor : bits .or .u32 (bits .or .u32 (bits .or .u32 (((at8 b 1).toNat : Int) * 16777216) (((at8 b 2).toNat : Int) * 65536)) (((at8 b 3).toNat : Int) * 256)) ((at8 b 4).toNat : Int) = (G : Int) := by
    rw [← hG]; exact or4 _ _ _ _ l1 l2 l3 l4
  rw [hor]
  clear hor
  refine wpList_built rfl 38 #[(0, .tmp 24), (1, .tmp 27), (2, .tmp 30)] rfl (cs := (sp3 G (at8 b 5).toNat (at8 b 6).toNat).cells.toArray) (by simp only [List.map_toArray, List.map_cons, List.map_nil]; exact built_sp3 G (at8 b 5).toNat (at8 b 6).toNat) ?_
  (try simp only [Act.put, List.setIfInBounds_toArray, List.set_cons_zero, List.set_cons_succ])
  refine wpList_new rfl spZ rfl ?_
  (try simp only [Act.put, List.setIfInBounds_toArray, List.set_cons_zero, List.set_cons_succ])
  refine wpList_store_row rfl 38 (.tmp 4) (.tmp 31) rfl _ (sp3 G (at8 b 5).toNat (at8 b 6).toNat).cells.toArray rfl rfl _ sp0.cells.toArray (heap_alloc_new _ _) (sp_info (sp3_ok hG5 l5' l6')) (by rw [List.size_toArray, List.size_toArray, sp0_ok.len, (sp3_ok hG5 l5' l6').len]) (all_oneCell_toArray (one_sp _)) ?_
  (try simp only [Act.put, List.setIfInBounds_toArray, List.set_cons_zero, List.set_cons_succ])
  go_upto_region 2 with (fail)
  obtain ⟨W2, hW2⟩ : ∃ X, (W.alloc (.cells sp0.cells.toArray 38)).setRow W.heap.size (sp3 G (at8 b 5).toNat (at8 b 6).toNat).cells.toArray = X := ⟨_, rfl⟩
  try rw [hW2]
  have c4 : W2.heap[W.heap.size]? = some (.cells (sp3 G (at8 b 5).toNat (at8 b 6).toNat).cells.toArray 38) := by rw [← hW2]; exact setRow_heap _ _ _ _ _ _ (heap_alloc_new _ _)
  have hb2 : Below W.heap.size W W2 := by rw [← hW2]; exact bSetRow ((Below.refl _ _).alloc (Nat.le_refl _) _) (Nat.le_refl _) _
  clear hW2
  have hz1 : w.heap.size + 1 < W.heap.size := (Array.getElem?_eq_some_iff.1 b2).1
  have c1 := bBlk hb2 (by omega) b1
  have c2 := bBlk hb2 (by omega) b2
  have hB2 := hB.trans (hb2.mono hB.size)
  have hP : decP b = ⟨G, ((at8 b 5).toNat : Nat), ((at8 b 6).toNat : Nat), (b.drop 7).take 32, (b.drop 39).take 16⟩ := by unfold decP; rw [hG]
  have hpok := decP_ok hb
  have hLl : ((b.drop 7).take 32).length = 32 := by simp [hb]
  have hUl : ((b.drop 39).take 16).length = 16 := by simp [hb]
  have r0 : W2.rangeAt w.heap.size 0 (bvs b) := fun j v hj => by rw [Nat.zero_add]; exact blk_cell c1 (by simpa using hj)
  have rL := range_cut r0 7 32
  have rU := range_cut r0 39 16
  rw [Nat.zero_add, show ((bvs b).drop 7).take 32 = bvs ((b.drop 7).take 32) from by simp [bvs, List.map_take, List.map_drop]] at rL
  rw [Nat.zero_add, show ((bvs b).drop 39).take 16 = bvs ((b.drop 39).take 16) from by simp [bvs, List.map_take, List.map_drop]] at rU
  obtain ⟨sf1, sf2⟩ := sp_fill G ((at8 b 5).toNat : Nat) ((at8 b 6).toNat : Nat) hLl hUl
  obtain ⟨L, hL⟩ : ∃ l, (b.drop 7).take 32 = l := ⟨_, rfl⟩
  obtain ⟨U, hU⟩ : ∃ l, (b.drop 39).take 16 = l := ⟨_, rfl⟩
  obtain ⟨C3, hC3⟩ : ∃ c, (sp3 G (at8 b 5).toNat (at8 b 6).toNat).cells.toArray = c := ⟨_, rfl⟩
  have hC51 : C3.size = 51 := by rw [← hC3, List.size_toArray, (sp3_ok hG5 l5' l6').len]
  rw [hL] at hP rL hLl sf1 sf2
  rw [hU] at hP rU hUl sf1 sf2
  rw [← hP] at sf1 sf2
  rw [hC3] at sf1 sf2 c4
  have HF := Lib.hid (And.intro sf1 sf2)
  clear hP hL hU hC3 hG r0 b1 b2 sf1 sf2 k1 k2 k3 k4 k5 k6 l1 l2 l3 l4 l5 l6
  have ha1 := fun (w : World) (a : Addr) (c : Nat) => run_arrayAt (P := Try.prog) Try.underlying34 a 32 c (by omega) w
  have ha2 := fun (w : World) (a : Addr) (c : Nat) => run_arrayAt (P := Try.prog) Try.underlying36 a 16 c (by omega) w
  let S : World → Prop := fun W' => W'.rangeAt w.heap.size 7 (bvs L) ∧ W'.rangeAt w.heap.size 39 (bvs U)
  refine wp_region_held (S := S) (by kernel_rfl) ?_
  change wpAnyH _ _ _ _ S _ _ _ W2.drew
  have hS0 : S W2.drew := ⟨rL, rU⟩
  have iL : (Try.prog.info? 34).map (·.size) = some (bvs L).length := by rw [bvs_len, hLl]; kernel_rfl
  have iU : (Try.prog.info? 36).map (·.size) = some (bvs U).length := by rw [bvs_len, hUl]; kernel_rfl
  refine wpAnyH_take (i := 0) (oi := ?oi_32) (v := ?v_32) ?ho_32 ?h1_32 ?h2_32 ?h3_32 ?hq_32 (Or.inl ⟨?hw_32, ?hy_32⟩) ?hs_32 ?rest_32; (case h2_32 => kernel_rfl); (case h3_32 => kernel_rfl); (case ho_32 => (simp only [List.getElem?_toArray, List.getElem?_cons_zero, List.getElem?_cons_succ]; rfl)); (case h1_32 => kernel_rfl); (case hq_32 => exact fun _ _ _ h => h); (case hw_32 => rfl); (case hy_32 => (intro w' hSw; (try simp only [S] at hSw); go_simp; (try with_reducible rfl))); (case hs_32 => assumption); (try simp only [Act.put, List.setIfInBounds_toArray, List.set_cons_zero, List.set_cons_succ])
  refine wpAnyH_take (i := 1) (oi := ?oi_33) (v := ?v_33) ?ho_33 ?h1_33 ?h2_33 ?h3_33 ?hq_33 (Or.inl ⟨?hw_33, ?hy_33⟩) ?hs_33 ?rest_33; (case h2_33 => kernel_rfl); (case h3_33 => kernel_rfl); (case ho_33 => (simp only [List.getElem?_toArray, List.getElem?_cons_zero, List.getElem?_cons_succ]; rfl)); (case h1_33 => kernel_rfl); (case hq_33 => exact fun _ _ _ h => h); (case hw_33 => rfl); (case hy_33 => (intro w' hSw; (try simp only [S] at hSw); go_simp; (try with_reducible rfl))); (case hs_33 => assumption); (try simp only [Act.put, List.setIfInBounds_toArray, List.set_cons_zero, List.set_cons_succ])
  refine wpAnyH_take (i := 2) (oi := ?oi_38) (v := ?v_38) ?ho_38 ?h1_38 ?h2_38 ?h3_38 ?hq_38 (Or.inl ⟨?hw_38, ?hy_38⟩) ?hs_38 ?rest_38; (case h2_38 => kernel_rfl); (case h3_38 => kernel_rfl); (case ho_38 => (simp only [List.getElem?_toArray, List.getElem?_cons_zero, List.getElem?_cons_succ]; rfl)); (case h1_38 => kernel_rfl); (case hq_38 => exact fun _ _ _ h => h); (case hw_38 => rfl); (case hy_38 => (intro w' hSw; refine exec_load_row (x := .tmp 33) ?_ ?_ hSw.1 Try.underlying34 ?_ iL <;> rfl)); (case hs_38 => assumption); (try simp only [Act.put, List.setIfInBounds_toArray, List.set_cons_zero, List.set_cons_succ])
  refine wpAnyH_take (i := 3) (oi := ?oi_34) (v := ?v_34) ?ho_34 ?h1_34 ?h2_34 ?h3_34 ?hq_34 (Or.inl ⟨?hw_34, ?hy_34⟩) ?hs_34 ?rest_34; (case h2_34 => kernel_rfl); (case h3_34 => kernel_rfl); (case ho_34 => (simp only [List.getElem?_toArray, List.getElem?_cons_zero, List.getElem?_cons_succ]; rfl)); (case h1_34 => kernel_rfl); (case hq_34 => exact fun _ _ _ h => h); (case hw_34 => rfl); (case hy_34 => (intro w' hSw; (try simp only [S] at hSw); go_simp; (try with_reducible rfl))); (case hs_34 => assumption); (try simp only [Act.put, List.setIfInBounds_toArray, List.set_cons_zero, List.set_cons_succ])
  refine wpAnyH_take (i := 4) (oi := ?oi_35) (v := ?v_35) ?ho_35 ?h1_35 ?h2_35 ?h3_35 ?hq_35 (Or.inl ⟨?hw_35, ?hy_35⟩) ?hs_35 ?rest_35; (case h2_35 => kernel_rfl); (case h3_35 => kernel_rfl); (case ho_35 => (simp only [List.getElem?_toArray, List.getElem?_cons_zero, List.getElem?_cons_succ]; rfl)); (case h1_35 => kernel_rfl); (case hq_35 => exact fun _ _ _ h => h); (case hw_35 => rfl); (case hy_35 => (intro w' hSw; (try simp only [S] at hSw); go_simp; (try with_reducible rfl))); (case hs_35 => assumption); (try simp only [Act.put, List.setIfInBounds_toArray, List.set_cons_zero, List.set_cons_succ])
  refine wpAnyH_take (i := 5) (oi := ?oi_39) (v := ?v_39) ?ho_39 ?h1_39 ?h2_39 ?h3_39 ?hq_39 (Or.inl ⟨?hw_39, ?hy_39⟩) ?hs_39 ?rest_39; (case h2_39 => kernel_rfl); (case h3_39 => kernel_rfl); (case ho_39 => (simp only [List.getElem?_toArray, List.getElem?_cons_zero, List.getElem?_cons_succ]; rfl)); (case h1_39 => kernel_rfl); (case hq_39 => exact fun _ _ _ h => h); (case hw_39 => rfl); (case hy_39 => (intro w' hSw; refine exec_load_row (x := .tmp 36) ?_ ?_ hSw.2 Try.underlying36 ?_ iU <;> rfl)); (case hs_39 => assumption); (try simp only [Act.put, List.setIfInBounds_toArray, List.set_cons_zero, List.set_cons_succ])
  refine wpAnyH_take (i := 6) (oi := ?oi_36) (v := ?v_36) ?ho_36 ?h1_36 ?h2_36 ?h3_36 ?hq_36 (Or.inl ⟨?hw_36, ?hy_36⟩) ?hs_36 ?rest_36; (case h2_36 => kernel_rfl); (case h3_36 => kernel_rfl); (case ho_36 => (simp only [List.getElem?_toArray, List.getElem?_cons_zero, List.getElem?_cons_succ]; rfl)); (case h1_36 => kernel_rfl); (case hq_36 => exact fun _ _ _ h => h); (case hw_36 => rfl); (case hy_36 => (intro w' hSw; (try simp only [S] at hSw); go_simp; (try with_reducible rfl))); (case hs_36 => assumption); (try simp only [Act.put, List.setIfInBounds_toArray, List.set_cons_zero, List.set_cons_succ])
  refine wpAnyH_ready (rs := [7]) (by kernel_rfl) (by simp) (AllReadyH.cons (o := ?oo7_40) ?hoo7_40 (fun K hK => ?steponly40) AllReadyH.nil); (case hoo7_40 => (simp only [List.getElem?_toArray, List.getElem?_cons_zero, List.getElem?_cons_succ]; rfl))
  refine step_store_mid rfl 34 (.tmp 38) (.tmp 34) rfl W.heap.size 3 (bvs L).toArray rfl rfl (there_blk (W := W2.drew) c4 (by rw [hC51, List.size_toArray, bvs_len, hLl]; omega)) (by rw [List.size_toArray]; exact iL) (all_oneCell_toArray (oneCell_bvs _)) ?_
  have d4 := blk_sets (bvs L) 3 (W := W2.drew) c4
  refine hK.out _ _ ⟨World.rangeAt_setCells_apart (w := W2.drew) rL _ _ _ (.inl (by omega)), World.rangeAt_setCells_apart (w := W2.drew) rU _ _ _ (.inl (by omega))⟩ (fun hSS => ?_)
  clear hK K
  (try simp only [Act.put, List.setIfInBounds_toArray, List.set_cons_zero, List.set_cons_succ])
  refine wpAnyH_take (i := 8) (oi := ?oi_37) (v := ?v_37) ?ho_37 ?h1_37 ?h2_37 ?h3_37 ?hq_37 (Or.inl ⟨?hw_37, ?hy_37⟩) ?hs_37 ?rest_37; (case h2_37 => kernel_rfl); (case h3_37 => kernel_rfl); (case ho_37 => (simp only [List.getElem?_toArray, List.getElem?_cons_zero, List.getElem?_cons_succ]; rfl)); (case h1_37 => kernel_rfl); (case hq_37 => exact fun _ _ _ h => h); (case hw_37 => rfl); (case hy_37 => (intro w' hSw; (try simp only [S] at hSw); go_simp; (try with_reducible rfl))); (case hs_37 => assumption); (try simp only [Act.put, List.setIfInBounds_toArray, List.set_cons_zero, List.set_cons_succ])
  refine wpAnyH_ready (rs := [9]) (by kernel_rfl) (by simp) (AllReadyH.cons (o := ?oo9_41) ?hoo9_41 (fun K hK => ?steponly41) AllReadyH.nil); (case hoo9_41 => (simp only [List.getElem?_toArray, List.getElem?_cons_zero, List.getElem?_cons_succ]; rfl))
  refine step_store_mid rfl 36 (.tmp 39) (.tmp 37) rfl W.heap.size 35 (bvs U).toArray rfl rfl (there_blk d4 (by rw [setMany_size, hC51, List.size_toArray, bvs_len, hUl]; omega)) (by rw [List.size_toArray]; exact iU) (all_oneCell_toArray (oneCell_bvs _)) ?_
  have e4 := blk_sets (bvs U) 35 d4
  rw [HF.out.1] at e4
  refine hK.out _ _ ⟨World.rangeAt_setCells_apart hSS.1 _ _ _ (.inl (by omega)), World.rangeAt_setCells_apart hSS.2 _ _ _ (.inl (by omega))⟩ (fun _ => ?_)
  clear hK K hSS
  (try simp only [Act.put, List.setIfInBounds_toArray, List.set_cons_zero, List.set_cons_succ])
  have e1 := (sets_far (bvs U) (W2.drew.setCells W.heap.size 3 (bvs L)) W.heap.size 35 w.heap.size (by omega)).trans ((sets_far (bvs L) W2.drew W.heap.size 3 w.heap.size (by omega)).trans c1)
  have e2 := (sets_far (bvs U) (W2.drew.setCells W.heap.size 3 (bvs L)) W.heap.size 35 (w.heap.size + 1) (by omega)).trans ((sets_far (bvs L) W2.drew W.heap.size 3 (w.heap.size + 1) (by omega)).trans c2)
  have hBX : Below w.heap.size w ((W2.drew.setCells W.heap.size 3 (bvs L)).setCells W.heap.size 35 (bvs U)) :=
    (but_sets (X := fun k => k = W.heap.size) _ _ _ (but_sets (X := fun k => k = W.heap.size) _ _ _ ((but_of hB2).drew) rfl) rfl).below (Nat.le_refl _) (fun k e => by omega)
  generalize (W2.drew.setCells W.heap.size 3 (bvs L)).setCells W.heap.size 35 (bvs U) = X at *
  clear d4
  refine wpAnyH_done (by kernel_rfl) ?_ _
  clear c1 c2 c4 rL rU iL iU HF hC51 hLl hUl ha1 ha2 hB2 hb2 hB l5' l6' hG5
  have HD := Lib.hid (And.intro (show decS b = if isS b then decP b else sp0 from rfl) (And.intro (show decE b = if isS b then 0 else 11 from rfl) (show isS b = ((decP b).good && ((decP b).enc == b)) from rfl)))
  have hEl := hpok.enc
  have henc := fun W => encode_any hpok W
  have hsi := sp_info hpok
  unfold spv bkv at henc
  generalize decP b = s at *
  have HG : Hid (s.encE = if s.good then 0 else 11) := Lib.hid rfl
  obtain ⟨E, hE⟩ : ∃ l, s.enc = l := ⟨_, rfl⟩
  rw [hE] at henc hEl HD
  go_upto_region 4 with (first
    | (refine wpList_load_row rfl 38 (.tmp 4) rfl _ rfl _ s.cells.toArray (0, 0) _ e4 Try.underlying38 rfl hsi ?_)
    | (go_at_call 45; refine Calls.mono (henc _) ?_; rintro e X1 ⟨rfl, hb1⟩)
    | (refine wpList_new rfl blkZ rfl ?_)
    | (refine wpList_store_row rfl 40 (.tmp 5) (.tmp 43) rfl _ (bvs E).toArray rfl rfl _ (bvs zblk).toArray (heap_alloc_new _ _) (bk_info hEl) (blk_sizes zblk_len hEl) (all_oneCell_toArray (oneCell_bvs _)) ?_)
    | fail)
  obtain ⟨Y, hY⟩ : ∃ Y, (X1.alloc (.cells (bvs zblk).toArray 40)).setRow X1.heap.size (bvs E).toArray = Y := ⟨_, rfl⟩
  rw [hY]
  have y5 : Y.heap[X1.heap.size]? = some (.cells (bvs E).toArray 40) := by rw [← hY]; exact setRow_heap _ _ _ _ _ _ (heap_alloc_new _ _)
  have hbY : Below X1.heap.size X1 Y := by rw [← hY]; exact bSetRow ((Below.refl _ _).alloc (Nat.le_refl _) _) (Nat.le_refl _) _
  clear hY
  have hzX : W.heap.size < X.heap.size := (Array.getElem?_eq_some_iff.1 e4).1
  have hzX1 := hb1.size
  have hb2 : Below X.heap.size X Y := hb1.trans (hbY.mono hzX1)
  have y1 := bBlk hb2 (by omega) e1
  have y2 := bBlk hb2 (by omega) e2
  have y4 := bBlk hb2 hzX e4
  have hBY := hBX.trans (hb2.mono hBX.size)
  have hin : (Try.prog.info? 38).map (·.size) = some sp0.cells.toArray.size := sp_info sp0_ok
  have hsz2 : s.cells.toArray.size = sp0.cells.toArray.size := by rw [List.size_toArray, List.size_toArray, hpok.len, sp0_ok.len]
  clear hb1 hb2 hbY e1 e2 e4 hBX henc
  obtain ⟨V, hV⟩ : ∃ V, Y.setRow (w.heap.size + 1) sp0.cells.toArray = V := ⟨_, rfl⟩
  have v2 : V.heap[w.heap.size + 1]? = some (.cells sp0.cells.toArray 38) := by rw [← hV]; exact setRow_heap _ _ _ _ _ _ y2
  have hBV : Below w.heap.size w V := by rw [← hV]; exact bSetRow hBY (by omega) _
  obtain ⟨U2, hU2⟩ : ∃ V, Y.setRow (w.heap.size + 1) s.cells.toArray = V := ⟨_, rfl⟩
  have u2 : U2.heap[w.heap.size + 1]? = some (.cells s.cells.toArray 38) := by rw [← hU2]; exact setRow_heap _ _ _ _ _ _ y2
  have hBU : Below w.heap.size w U2 := by rw [← hU2]; exact bSetRow hBY (by omega) _
  have hld := run_loadVar_row (P := Try.prog) V _ _ 38 _ _ _ v2 Try.underlying38 rfl hin
  have hld2 := run_loadVar_row (P := Try.prog) U2 _ _ 38 _ _ _ u2 Try.underlying38 rfl hsi
  cases hg : s.good
  · rw [hg] at HG HD
    have HE := HG.out
    simp only [Bool.false_eq_true, if_false] at HE
    rw [HE]
    clear hg HE hld2 u2 hBU hU2
    go_wp2_with (first
      | (refine wpList_built rfl 38 #[] rfl (cs := sp0.cells.toArray) (by simp only [List.map_toArray, List.map_nil]; exact built_sp0) ?_)
      | (refine wpList_store_row rfl 38 (.tmp 2) (.tmp 52) rfl _ sp0.cells.toArray rfl rfl _ sp0.cells.toArray y2 hin rfl (all_oneCell_toArray (one_sp _)) ?_)
      | fail)
    try rw [hV]
    refine bodyPost_ret (by simp [results, Try.results47, Act.put, asAddr, Result.andThen, hld]; try rfl) rfl ?_
    refine Ret.mk ?_ hBV
    have h3 := HD.out.2.2
    simp only [Bool.false_and] at h3
    rw [HD.out.1, HD.out.2.1, h3]
    rfl
  · rw [hg] at HG HD
    have HE := HG.out
    simp only [if_true] at HE
    rw [HE]
    have hq := fun w => bk_eq hEl hb w
    obtain ⟨q, hqq⟩ : ∃ q, (E == b) = q := ⟨_, rfl⟩
    rw [hqq] at hq HD
    clear hqq hg HE
    cases q
    · clear hld2 u2 hBU hU2
      go_wp2_with (first
      | (refine wpList_load_row_g (by simp [Region.wanted, yielded, Act.put]) 40 (.tmp 5) rfl _ rfl _ (bvs E).toArray (0, 0) _ y5 Try.underlying40 rfl (bk_info hEl) ?_)
      | (refine wpList_load_row_g (by simp [Region.wanted, yielded, Act.put]) 40 (.tmp 1) rfl _ rfl _ (bvs b).toArray (0, 0) _ y1 Try.underlying40 rfl (bk_info hb) ?_)
        | (refine wpList_built rfl 38 #[] rfl (cs := sp0.cells.toArray) (by simp only [List.map_toArray, List.map_nil]; exact built_sp0) ?_)
        | (refine wpList_store_row rfl 38 (.tmp 2) (.tmp 52) rfl _ sp0.cells.toArray rfl rfl _ sp0.cells.toArray y2 hin rfl (all_oneCell_toArray (one_sp _)) ?_)
        | fail)
      try rw [hV]
      refine bodyPost_ret (by simp [results, Try.results47, Act.put, asAddr, Result.andThen, hld]; try rfl) rfl ?_
      refine Ret.mk ?_ hBV
      have h3 := HD.out.2.2
      simp only [Bool.and_false] at h3
      rw [HD.out.1, HD.out.2.1, h3]
      rfl
    · clear hld v2 hBV hV
      go_wp2_with (first
      | (refine wpList_load_row_g (by simp [Region.wanted, yielded, Act.put]) 40 (.tmp 5) rfl _ rfl _ (bvs E).toArray (0, 0) _ y5 Try.underlying40 rfl (bk_info hEl) ?_)
      | (refine wpList_load_row_g (by simp [Region.wanted, yielded, Act.put]) 40 (.tmp 1) rfl _ rfl _ (bvs b).toArray (0, 0) _ y1 Try.underlying40 rfl (bk_info hb) ?_)
        | (refine wpList_load_row rfl 38 (.tmp 4) rfl _ rfl _ s.cells.toArray (0, 0) _ y4 Try.underlying38 rfl hsi ?_)
        | (refine wpList_store_row rfl 38 (.tmp 2) (.tmp 53) rfl _ s.cells.toArray rfl rfl _ sp0.cells.toArray y2 hsi hsz2.symm (all_oneCell_toArray (one_sp _)) ?_)
        | fail)
      try rw [hU2]
      refine bodyPost_ret (by simp [results, Try.results47, Act.put, asAddr, Result.andThen, hld2]; try rfl) rfl ?_
      refine Ret.mk ?_ hBU
      have h3 := HD.out.2.2
      simp only [Bool.and_true] at h3
      rw [HD.out.1, HD.out.2.1, h3]
      rfl
end Go.Proofs.Ytnkdbkgihemjnaa
