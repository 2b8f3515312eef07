/- The walk over DecodeRev. -/
import Derived.Test.YtjfkaebikmnnaaaRevWalk
import Derived.Test.YtjfkaebikmnnaaaMany
namespace Go.Proofs.Ytjfkaebikmnnaaa
set_option linter.unusedSimpArgs false
set_option linter.unusedVariables false
open Go.RowKit Go.Sort

theorem rvZ : ZeroIs Try.prog 43 rv0.cells.toArray := by
  unfold ZeroIs
  rw [List.size_toArray, rv0_ok.len]
  kernel_rfl
theorem rv_size : (Try.prog.info? 43).map (·.size) = some 99 := by kernel_rfl
theorem rv_info {r : RV} (h : r.Ok) : (Try.prog.info? 43).map (·.size) = some r.cells.toArray.size := by rw [List.size_toArray, h.len]; exact rv_size
theorem rv_sizes {a b : RV} (ha : a.Ok) (hb : b.Ok) : a.cells.toArray.size = b.cells.toArray.size := by rw [List.size_toArray, List.size_toArray, ha.len, hb.len]
theorem one_rv (r : RV) : ∀ u ∈ r.cells, u.oneCell' = true := fun u hu => by
  unfold RV.cells at hu
  simp only [List.mem_cons, List.mem_append, List.mem_nil_iff, or_false] at hu
  rcases hu with rfl | rfl | h | h | h | rfl
  · rfl
  · rfl
  · exact oneCell_bvs _ u h
  · exact oneCell_bvs _ u h
  · exact oneCell_bvs _ u h
  · rfl
theorem built_rv0 : Try.prog.built 43 [] = some rv0.cells.toArray := by kernel_rfl
theorem rv_places : placesOf Try.prog 43 = some [(0, 1), (1, 1), (2, 32), (34, 32), (66, 32), (98, 1)] := by kernel_rfl
theorem built_rv {r : RV} (h : r.Ok) : Try.prog.built 43 [(0, .int .i64 r.num), (1, .int .i64 r.par), (5, .int .i64 r.pag), (2, .agg (bvs r.src).toArray), (3, .agg (bvs r.sty).toArray), (4, .agg (bvs r.tre).toArray)] = some r.cells.toArray := by
  obtain ⟨num, par, src, sty, tre, pag⟩ := r
  have h1 : (bvs src).length = 32 := by rw [bvs_len]; exact h.src
  have h2 : (bvs sty).length = 32 := by rw [bvs_len]; exact h.sty
  have h3 : (bvs tre).length = 32 := by rw [bvs_len]; exact h.tre
  obtain ⟨Z, hZ⟩ : ∃ Z, bvs (List.replicate 32 0) = Z := ⟨_, rfl⟩
  have hz : Z.length = 32 := by rw [← hZ, bvs_len]; simp
  have e0 : rv0.cells = .int .i64 0 :: .int .i64 0 :: (Z ++ (Z ++ (Z ++ [.int .i64 0]))) := by rw [← hZ]; rfl
  have z0 : rv0.cells.toArray.size = 99 := by rw [List.size_toArray, rv0_ok.len]
  simp only at *
  have e1 : setMany rv0.cells.toArray 0 [.int .i64 num] = (.int .i64 num :: .int .i64 0 :: (Z ++ (Z ++ (Z ++ [.int .i64 0])))).toArray := by rw [e0]; rfl
  have e2 : setMany (.int .i64 num :: .int .i64 0 :: (Z ++ (Z ++ (Z ++ [.int .i64 0])))).toArray 1 [.int .i64 par] = (.int .i64 num :: .int .i64 par :: (Z ++ (Z ++ (Z ++ [.int .i64 0])))).toArray := rfl
  have e3 := setMany_at (l := .int .i64 num :: .int .i64 par :: (Z ++ (Z ++ (Z ++ [.int .i64 0])))) (x := .int .i64 num :: .int .i64 par :: (Z ++ (Z ++ Z))) (y := [.int .i64 0]) (z := []) (v := [.int .i64 pag]) (o := 98) (by simp) (by simp [hz]) rfl
  have e4 := setMany_at (l := .int .i64 num :: .int .i64 par :: (Z ++ (Z ++ (Z ++ [.int .i64 pag])))) (x := [.int .i64 num, .int .i64 par]) (y := Z) (z := Z ++ (Z ++ [.int .i64 pag])) (v := bvs src) (o := 2) (by simp) rfl (by omega)
  have e5 := setMany_at (l := .int .i64 num :: .int .i64 par :: (bvs src ++ (Z ++ (Z ++ [.int .i64 pag])))) (x := .int .i64 num :: .int .i64 par :: bvs src) (y := Z) (z := Z ++ [.int .i64 pag]) (v := bvs sty) (o := 34) (by simp) (by simp [h1]) (by omega)
  have e6 := setMany_at (l := .int .i64 num :: .int .i64 par :: (bvs src ++ (bvs sty ++ (Z ++ [.int .i64 pag])))) (x := .int .i64 num :: .int .i64 par :: (bvs src ++ bvs sty)) (y := Z) (z := [.int .i64 pag]) (v := bvs tre) (o := 66) (by simp) (by simp [h1, h2]) (by omega)
  rw [built_fill rvZ rv_places, fill_many (off := 0) (size := 1) rfl rfl (by omega), fill_many (off := 1) (size := 1) rfl rfl (by rw [setMany_size]; omega), fill_many (off := 98) (size := 1) rfl rfl (by rw [setMany_size, setMany_size]; omega),
    fill_many (off := 2) (size := 32) rfl (by simp [Value.cells, h1]) (by rw [setMany_size, setMany_size, setMany_size]; omega), fill_many (off := 34) (size := 32) rfl (by simp [Value.cells, h2]) (by rw [setMany_size, setMany_size, setMany_size, setMany_size]; omega),
    fill_many (off := 66) (size := 32) rfl (by simp [Value.cells, h3]) (by rw [setMany_size, setMany_size, setMany_size, setMany_size, setMany_size]; omega), fill_end]
  simp only [Value.cells, List.cons_append, List.nil_append, List.append_assoc] at e3 e4 e5 e6 ⊢
  rw [e1, e2, e3, e4, e5, e6]
  rfl

def RDec (w : World) (l : List UInt8) (e : Ending) (w' : World) : Prop := Ret w (.tuple #[rvv (rvOf l), .int .i64 (erF (isR l))]) e w'
set_option maxHeartbeats 4000000 in
set_option maxRecDepth 100000 in
theorem dec_short {A : Option Addr} {n c : Nat} {l : List UInt8} (hn : n = l.length) (h : n ≠ 101) (w : World) : Calls Try.prog 22 #[.slice A n c] w (RDec w l) := by
  have hD : Hid ((Value.tuple #[rvv (rvOf l), .int .i64 (erF (isR l))]) = .tuple #[.agg rv0.cells.toArray, .int .i64 11]) := Lib.hid (by
    have : isR l = false := by unfold isR; rw [decide_eq_false (by omega)]; rfl
    unfold rvOf rvv erF
    rw [this]; rfl)
  have h1 : (n : Int) ≠ 101 := by omega
  have hin : (Try.prog.info? 43).map (·.size) = some rv0.cells.toArray.size := rv_info rv0_ok
  have hz := rvZ
  have hb0 := built_rv0
  have hone := one_rv rv0
  obtain ⟨z, hzz⟩ : ∃ z, rv0.cells = z := ⟨_, rfl⟩
  rw [hzz] at hD hin hz hb0 hone
  clear hzz hn
  go_enter Try.func22, Try.ntmps22
  go_upto_region 1 with (first | (refine wpList_new rfl hz rfl ?_) | fail)
  obtain ⟨W, hW⟩ : ∃ W, w.alloc (.cells z.toArray 43) = W := ⟨_, rfl⟩
  try rw [hW]
  have a2 : W.heap[w.heap.size]? = some (.cells z.toArray 43) := by rw [← hW]; exact heap_alloc_new _ _
  have hB : Below w.heap.size w W := by rw [← hW]; exact (Below.refl _ _).alloc (Nat.le_refl _) _
  clear hW hz
  obtain ⟨V, hV⟩ : ∃ V, W.setRow w.heap.size z.toArray = V := ⟨_, rfl⟩
  have v2 : V.heap[w.heap.size]? = some (.cells z.toArray 43) := by rw [← hV]; exact setRow_heap _ _ _ _ _ _ a2
  have hBV : Below w.heap.size w V := by rw [← hV]; exact bSetRow hB (Nat.le_refl _) _
  have hld := run_loadVar_row (P := Try.prog) V _ _ 43 _ _ _ v2 Try.underlying43 rfl hin
  have HB := Lib.hid hBV
  clear hBV hB v2
  go_wp2_with (first
    | (refine wpList_built rfl 43 #[] rfl (cs := z.toArray) (by simp only [List.map_toArray, List.map_nil]; exact hb0) ?_)
    | (refine wpList_store_row rfl 43 (.tmp 2) (.tmp 10) rfl _ z.toArray rfl rfl _ z.toArray a2 hin rfl (all_oneCell_toArray hone) ?_)
    | fail)
  try rw [hV]
  refine bodyPost_ret (by simp [results, Try.results22, Act.put, asAddr, Result.andThen, hld]; try rfl) rfl ?_
  exact Ret.mk hD.out.symm HB.out

set_option maxHeartbeats 8000000 in
set_option maxRecDepth 100000 in
theorem dec_full {A : Option Addr} {c B : Nat} {l : List UInt8} (hl : l.length = 101) (w : World) (hs : Sl w B 1 A 101 (bvs l)) (hB : B ≤ w.heap.size) (hc : 101 ≤ c) : Calls Try.prog 22 #[.slice A 101 c] w (RDec w l) := by
  obtain ⟨b, o, rfl, hbB, hr⟩ := hs.at_ (by omega)
  have hR : Hid (isR l = (decR l).good) := Lib.hid (by unfold isR; rw [decide_eq_true hl]; rfl)
  have hV : Hid (rvOf l = if isR l then decR l else rv0) := Lib.hid rfl
  have hok := decR_ok hl
  have e1 : (decR l).num = ((n16 l 0 : Nat) : Int) := rfl
  have e2 : (decR l).par = ((n16 l 2 : Nat) : Int) := rfl
  have e3 : (decR l).pag = (((at8 l 4).toNat : Nat) : Int) := rfl
  have e4 : (l.drop 5).take 32 = (decR l).src := rfl
  have e5 : (l.drop 37).take 32 = (decR l).sty := rfl
  have e6 : (l.drop 69).take 32 = (decR l).tre := rfl
  have hbt := built_rv hok
  have k4 := hs.cellAt rfl (i := 4) (by omega)
  have r1 := range_cut hr 5 32
  have r2 := range_cut hr 37 32
  have r3 := range_cut hr 69 32
  rw [show ((bvs l).drop 5).take 32 = bvs ((l.drop 5).take 32) from by simp [bvs, List.map_take, List.map_drop], e4] at r1
  rw [show ((bvs l).drop 37).take 32 = bvs ((l.drop 37).take 32) from by simp [bvs, List.map_take, List.map_drop], e5] at r2
  rw [show ((bvs l).drop 69).take 32 = bvs ((l.drop 69).take 32) from by simp [bvs, List.map_take, List.map_drop], e6] at r3
  have hn2 : n16 (l.drop 2) 0 = n16 l 2 := by unfold n16 at8; rw [List.getElem?_drop, List.getElem?_drop]
  have hs2 : Sl w B 1 (some ⟨b, o + 2, none⟩) 99 (bvs (l.drop 2)) := by
    refine ⟨by rw [bvs_len, List.length_drop, hl], fun _ => ⟨b, o + 2, rfl, hbB, ?_⟩⟩
    have := range_cut hr 2 99
    rwa [show ((bvs l).drop 2).take 99 = bvs (l.drop 2) from by rw [List.take_of_length_le (by rw [List.length_drop, bvs_len, hl]; omega)]; simp [bvs, List.map_drop]] at this
  have ht1 := fun (X : World) (hX : Below w.heap.size w X) => two_any (c := c) X (hs.below (hX.mono hB)) (by omega)
  have ht2 := fun (X : World) (hX : Below w.heap.size w X) => two_any (c := c - 2) X (hs2.below (hX.mono hB)) (by omega)
  rw [← e1] at ht1
  rw [hn2, ← e2] at ht2
  rw [← e3] at k4
  have l4 := (at8 l 4).toNat_lt
  have p0 : 0 ≤ (decR l).pag ∧ (decR l).pag < 256 := by rw [e3]; omega
  have hsl := hok.src
  have htl := hok.sty
  have hul := hok.tre
  have hin : (Try.prog.info? 43).map (·.size) = some rv0.cells.toArray.size := rv_info rv0_ok
  have hii := rv_info hok
  have hsz := rv_sizes rv0_ok hok
  have hz := rvZ
  have hb0 := built_rv0
  have hone := one_rv rv0
  have hone2 := one_rv (decR l)
  have hrev := hok
  unfold RDec rvv
  clear e1 e2 e3 e4 e5 e6 hn2 hs hs2 l4
  generalize decR l = r at *
  obtain ⟨z, hzz⟩ : ∃ z, rv0.cells = z := ⟨_, rfl⟩
  have HZ := Lib.hid hzz
  rw [hzz] at hin hz hb0 hone hsz
  clear hzz hbB
  have hbw : b < w.heap.size := range_lt hr (by intro e; have := congrArg List.length e; rw [bvs_len, hl] at this; simp at this)
  go_enter Try.func22, Try.ntmps22
  go_upto_region 3 with (first | (refine wpList_new rfl hz rfl ?_) | fail)
  obtain ⟨W, hW⟩ : ∃ W, w.alloc (.cells z.toArray 43) = W := ⟨_, rfl⟩
  try rw [hW]
  have a2 : W.heap[w.heap.size]? = some (.cells z.toArray 43) := by rw [← hW]; exact heap_alloc_new _ _
  have hBW : Below w.heap.size w W := by rw [← hW]; exact (Below.refl _ _).alloc (Nat.le_refl _) _
  have hzW : w.heap.size < W.heap.size := by rw [← hW]; simp
  clear hW
  go_cut [4] from 11 to 32 (fun s4 wx => s4 = .pointer (some ⟨W.heap.size, 0, none⟩) ∧ wx.heap[W.heap.size]? = some (.cells r.cells.toArray 43) ∧ Below W.heap.size W wx)
  case first =>
    have iS : (Try.prog.info? 41).map (·.size) = some (bvs r.src).length := by rw [bvs_len, hsl]; kernel_rfl
    have iT : (Try.prog.info? 41).map (·.size) = some (bvs r.sty).length := by rw [bvs_len, htl]; kernel_rfl
    have iU : (Try.prog.info? 41).map (·.size) = some (bvs r.tre).length := by rw [bvs_len, hul]; kernel_rfl
    have ha1 := fun (w : World) (a : Addr) (n c : Nat) (h : 32 ≤ n) => run_arrayAt (P := Try.prog) Try.underlying41 a n c h w
    let S : World → Prop := fun w' => Below W.heap.size W w'
    have q4 : ∀ w', S w' → w'.cell? ⟨b, o + 4, none⟩ = some (.int .u8 r.pag) := fun w' h => ((hBW.trans (Below.mono h (by omega))).cell (p := ⟨b, o + 4, none⟩) hbw).trans k4
    have q1 : ∀ w', S w' → w'.rangeAt b (o + 5) (bvs r.src) := fun w' h => bRange (hBW.trans (Below.mono h (by omega))) hbw r1
    have q2 : ∀ w', S w' → w'.rangeAt b (o + 37) (bvs r.sty) := fun w' h => bRange (hBW.trans (Below.mono h (by omega))) hbw r2
    have q3 : ∀ w', S w' → w'.rangeAt b (o + 69) (bvs r.tre) := fun w' h => bRange (hBW.trans (Below.mono h (by omega))) hbw r3
    have t1 := fun w' (h : S w') => ht1 w' (hBW.trans (Below.mono h (by omega)))
    have t2 := fun w' (h : S w') => ht2 w' (hBW.trans (Below.mono h (by omega)))
    have hS0 : S W.drew := (Below.refl _ _).drew
    have hSd : ∀ w' k, S w' → S (w'.drewN k) := fun w' k h => bDrewN h k
    have ew : IntKind.i64.wrap r.pag = r.pag := wrap_small _ (by omega) (by omega)
    have c2 : ¬ c = 2 := by omega
    have c5 : ¬ c = 5 := by omega
    have c37 : ¬ c = 37 := by omega
    have c69 : ¬ c = 69 := by omega
    have i37 : (37 : Int) ≤ (c : Int) := by omega
    have i69 : (69 : Int) ≤ (c : Int) := by omega
    have i101 : (101 : Int) ≤ (c : Int) := by omega
    refine wp_region_held (S := S) (by kernel_rfl) ?_
    change wpAnyH _ _ _ _ S _ _ _ W.drew
    refine wpAnyH_take (i := 0) (oi := ?oi_1) (v := ?v_1) ?ho_1 ?h1_1 ?h2_1 ?h3_1 ?hq_1 (Or.inl ⟨?hw_1, ?hy_1⟩) ?hs_1 ?rest_1; (case h2_1 => kernel_rfl); (case h3_1 => kernel_rfl); (case ho_1 => (simp only [List.getElem?_toArray, List.getElem?_cons_zero, List.getElem?_cons_succ]; rfl)); (case h1_1 => kernel_rfl); (case hq_1 => exact fun _ _ _ h => h); (case hw_1 => rfl); (case hy_1 => (intro w' hSw; (try simp only [S] at hSw); go_simp; (try with_reducible rfl))); (case hs_1 => assumption); (try simp only [Act.put, List.setIfInBounds_toArray, List.set_cons_zero, List.set_cons_succ])
    refine wpAnyH_take (i := 2) (oi := ?oi_2) (v := ?v_2) ?ho_2 ?h1_2 ?h2_2 ?h3_2 ?hq_2 (Or.inl ⟨?hw_2, ?hy_2⟩) ?hs_2 ?rest_2; (case h2_2 => kernel_rfl); (case h3_2 => kernel_rfl); (case ho_2 => (simp only [List.getElem?_toArray, List.getElem?_cons_zero, List.getElem?_cons_succ]; rfl)); (case h1_2 => kernel_rfl); (case hq_2 => exact fun _ _ _ h => h); (case hw_2 => rfl); (case hy_2 => (intro w' hSw; (try simp only [S] at hSw); go_simp; (try with_reducible rfl))); (case hs_2 => assumption); (try simp only [Act.put, List.setIfInBounds_toArray, List.set_cons_zero, List.set_cons_succ])
    refine wpAnyH_take (i := 3) (oi := ?oi_3) (v := ?v_3) ?ho_3 ?h1_3 ?h2_3 ?h3_3 ?hq_3 (Or.inl ⟨?hw_3, ?hy_3⟩) ?hs_3 ?rest_3; (case h2_3 => kernel_rfl); (case h3_3 => kernel_rfl); (case ho_3 => (simp only [List.getElem?_toArray, List.getElem?_cons_zero, List.getElem?_cons_succ]; rfl)); (case h1_3 => kernel_rfl); (case hq_3 => exact fun _ _ _ h => h); (case hw_3 => rfl); (case hy_3 => (intro w' hSw; (try simp only [S] at hSw); go_simp; (try with_reducible rfl))); (case hs_3 => assumption); (try simp only [Act.put, List.setIfInBounds_toArray, List.set_cons_zero, List.set_cons_succ])
    refine wpAnyH_take (i := 5) (oi := ?oi_4) (v := ?v_4) ?ho_4 ?h1_4 ?h2_4 ?h3_4 ?hq_4 (Or.inl ⟨?hw_4, ?hy_4⟩) ?hs_4 ?rest_4; (case h2_4 => kernel_rfl); (case h3_4 => kernel_rfl); (case ho_4 => (simp only [List.getElem?_toArray, List.getElem?_cons_zero, List.getElem?_cons_succ]; rfl)); (case h1_4 => kernel_rfl); (case hq_4 => exact fun _ _ _ h => h); (case hw_4 => rfl); (case hy_4 => (intro w' hSw; (try simp only [S] at hSw); go_simp; (try with_reducible rfl))); (case hs_4 => assumption); (try simp only [Act.put, List.setIfInBounds_toArray, List.set_cons_zero, List.set_cons_succ])
    refine wpAnyH_take (i := 6) (oi := ?oi_5) (v := ?v_5) ?ho_5 ?h1_5 ?h2_5 ?h3_5 ?hq_5 (Or.inl ⟨?hw_5, ?hy_5⟩) ?hs_5 ?rest_5; (case h2_5 => kernel_rfl); (case h3_5 => kernel_rfl); (case ho_5 => (simp only [List.getElem?_toArray, List.getElem?_cons_zero, List.getElem?_cons_succ]; rfl)); (case h1_5 => kernel_rfl); (case hq_5 => exact fun _ _ _ h => h); (case hw_5 => rfl); (case hy_5 => (intro w' hSw; (try simp only [S] at hSw); go_simp; (try with_reducible rfl))); (case hs_5 => assumption); (try simp only [Act.put, List.setIfInBounds_toArray, List.set_cons_zero, List.set_cons_succ])
    refine wpAnyH_take (i := 7) (oi := ?oi_16) (v := ?v_16) ?ho_16 ?h1_16 ?h2_16 ?h3_16 ?hq_16 (Or.inl ⟨?hw_16, ?hy_16⟩) ?hs_16 ?rest_16; (case h2_16 => kernel_rfl); (case h3_16 => kernel_rfl); (case ho_16 => (simp only [List.getElem?_toArray, List.getElem?_cons_zero, List.getElem?_cons_succ]; rfl)); (case h1_16 => kernel_rfl); (case hq_16 => exact fun _ _ _ h => h); (case hw_16 => rfl); (case hy_16 => (intro w' hSw; have hq := q4 w' hSw; go_simp; (try with_reducible rfl))); (case hs_16 => assumption); (try simp only [Act.put, List.setIfInBounds_toArray, List.set_cons_zero, List.set_cons_succ])
    refine wpAnyH_take (i := 8) (oi := ?oi_6) (v := ?v_6) ?ho_6 ?h1_6 ?h2_6 ?h3_6 ?hq_6 (Or.inl ⟨?hw_6, ?hy_6⟩) ?hs_6 ?rest_6; (case h2_6 => kernel_rfl); (case h3_6 => kernel_rfl); (case ho_6 => (simp only [List.getElem?_toArray, List.getElem?_cons_zero, List.getElem?_cons_succ]; rfl)); (case h1_6 => kernel_rfl); (case hq_6 => exact fun _ _ _ h => h); (case hw_6 => rfl); (case hy_6 => (intro w' hSw; (try simp only [S] at hSw); go_simp; (try with_reducible rfl))); (case hs_6 => assumption); (try simp only [Act.put, List.setIfInBounds_toArray, List.set_cons_zero, List.set_cons_succ])
    refine wpAnyH_take (i := 9) (oi := ?oi_7) (v := ?v_7) ?ho_7 ?h1_7 ?h2_7 ?h3_7 ?hq_7 (Or.inl ⟨?hw_7, ?hy_7⟩) ?hs_7 ?rest_7; (case h2_7 => kernel_rfl); (case h3_7 => kernel_rfl); (case ho_7 => (simp only [List.getElem?_toArray, List.getElem?_cons_zero, List.getElem?_cons_succ]; rfl)); (case h1_7 => kernel_rfl); (case hq_7 => exact fun _ _ _ h => h); (case hw_7 => rfl); (case hy_7 => (intro w' hSw; (try simp only [S] at hSw); go_simp; (try with_reducible rfl))); (case hs_7 => assumption); (try simp only [Act.put, List.setIfInBounds_toArray, List.set_cons_zero, List.set_cons_succ])
    refine wpAnyH_take (i := 10) (oi := ?oi_8) (v := ?v_8) ?ho_8 ?h1_8 ?h2_8 ?h3_8 ?hq_8 (Or.inl ⟨?hw_8, ?hy_8⟩) ?hs_8 ?rest_8; (case h2_8 => kernel_rfl); (case h3_8 => kernel_rfl); (case ho_8 => (simp only [List.getElem?_toArray, List.getElem?_cons_zero, List.getElem?_cons_succ]; rfl)); (case h1_8 => kernel_rfl); (case hq_8 => exact fun _ _ _ h => h); (case hw_8 => rfl); (case hy_8 => (intro w' hSw; (try simp only [S] at hSw); go_simp; (try with_reducible rfl))); (case hs_8 => assumption); (try simp only [Act.put, List.setIfInBounds_toArray, List.set_cons_zero, List.set_cons_succ])
    refine wpAnyH_take (i := 11) (oi := ?oi_9) (v := ?v_9) ?ho_9 ?h1_9 ?h2_9 ?h3_9 ?hq_9 (Or.inl ⟨?hw_9, ?hy_9⟩) ?hs_9 ?rest_9; (case h2_9 => kernel_rfl); (case h3_9 => kernel_rfl); (case ho_9 => (simp only [List.getElem?_toArray, List.getElem?_cons_zero, List.getElem?_cons_succ]; rfl)); (case h1_9 => kernel_rfl); (case hq_9 => exact fun _ _ _ h => h); (case hw_9 => rfl); (case hy_9 => (intro w' hSw; (try simp only [S] at hSw); go_simp; (try with_reducible rfl))); (case hs_9 => assumption); (try simp only [Act.put, List.setIfInBounds_toArray, List.set_cons_zero, List.set_cons_succ])
    refine wpAnyH_take (i := 12) (oi := ?oi_17) (v := ?v_17) ?ho_17 ?h1_17 ?h2_17 ?h3_17 ?hq_17 (Or.inl ⟨?hw_17, ?hy_17⟩) ?hs_17 ?rest_17; (case h2_17 => kernel_rfl); (case h3_17 => kernel_rfl); (case ho_17 => (simp only [List.getElem?_toArray, List.getElem?_cons_zero, List.getElem?_cons_succ]; rfl)); (case h1_17 => kernel_rfl); (case hq_17 => exact fun _ _ _ h => h); (case hw_17 => rfl); (case hy_17 => (intro w' hSw; refine exec_load_row (x := .tmp 22) ?_ ?_ (q1 w' hSw) Try.underlying41 ?_ iS <;> rfl)); (case hs_17 => assumption); (try simp only [Act.put, List.setIfInBounds_toArray, List.set_cons_zero, List.set_cons_succ])
    refine wpAnyH_take (i := 13) (oi := ?oi_10) (v := ?v_10) ?ho_10 ?h1_10 ?h2_10 ?h3_10 ?hq_10 (Or.inl ⟨?hw_10, ?hy_10⟩) ?hs_10 ?rest_10; (case h2_10 => kernel_rfl); (case h3_10 => kernel_rfl); (case ho_10 => (simp only [List.getElem?_toArray, List.getElem?_cons_zero, List.getElem?_cons_succ]; rfl)); (case h1_10 => kernel_rfl); (case hq_10 => exact fun _ _ _ h => h); (case hw_10 => rfl); (case hy_10 => (intro w' hSw; (try simp only [S] at hSw); go_simp; (try with_reducible rfl))); (case hs_10 => assumption); (try simp only [Act.put, List.setIfInBounds_toArray, List.set_cons_zero, List.set_cons_succ])
    refine wpAnyH_take (i := 14) (oi := ?oi_11) (v := ?v_11) ?ho_11 ?h1_11 ?h2_11 ?h3_11 ?hq_11 (Or.inl ⟨?hw_11, ?hy_11⟩) ?hs_11 ?rest_11; (case h2_11 => kernel_rfl); (case h3_11 => kernel_rfl); (case ho_11 => (simp only [List.getElem?_toArray, List.getElem?_cons_zero, List.getElem?_cons_succ]; rfl)); (case h1_11 => kernel_rfl); (case hq_11 => exact fun _ _ _ h => h); (case hw_11 => rfl); (case hy_11 => (intro w' hSw; (try simp only [S] at hSw); go_simp; (try with_reducible rfl))); (case hs_11 => assumption); (try simp only [Act.put, List.setIfInBounds_toArray, List.set_cons_zero, List.set_cons_succ])
    refine wpAnyH_take (i := 15) (oi := ?oi_12) (v := ?v_12) ?ho_12 ?h1_12 ?h2_12 ?h3_12 ?hq_12 (Or.inl ⟨?hw_12, ?hy_12⟩) ?hs_12 ?rest_12; (case h2_12 => kernel_rfl); (case h3_12 => kernel_rfl); (case ho_12 => (simp only [List.getElem?_toArray, List.getElem?_cons_zero, List.getElem?_cons_succ]; rfl)); (case h1_12 => kernel_rfl); (case hq_12 => exact fun _ _ _ h => h); (case hw_12 => rfl); (case hy_12 => (intro w' hSw; (try simp only [S] at hSw); go_simp; (try with_reducible rfl))); (case hs_12 => assumption); (try simp only [Act.put, List.setIfInBounds_toArray, List.set_cons_zero, List.set_cons_succ])
    refine wpAnyH_take (i := 16) (oi := ?oi_18) (v := ?v_18) ?ho_18 ?h1_18 ?h2_18 ?h3_18 ?hq_18 (Or.inl ⟨?hw_18, ?hy_18⟩) ?hs_18 ?rest_18; (case h2_18 => kernel_rfl); (case h3_18 => kernel_rfl); (case ho_18 => (simp only [List.getElem?_toArray, List.getElem?_cons_zero, List.getElem?_cons_succ]; rfl)); (case h1_18 => kernel_rfl); (case hq_18 => exact fun _ _ _ h => h); (case hw_18 => rfl); (case hy_18 => (intro w' hSw; refine exec_load_row (x := .tmp 26) ?_ ?_ (q2 w' hSw) Try.underlying41 ?_ iT <;> rfl)); (case hs_18 => assumption); (try simp only [Act.put, List.setIfInBounds_toArray, List.set_cons_zero, List.set_cons_succ])
    refine wpAnyH_take (i := 17) (oi := ?oi_13) (v := ?v_13) ?ho_13 ?h1_13 ?h2_13 ?h3_13 ?hq_13 (Or.inl ⟨?hw_13, ?hy_13⟩) ?hs_13 ?rest_13; (case h2_13 => kernel_rfl); (case h3_13 => kernel_rfl); (case ho_13 => (simp only [List.getElem?_toArray, List.getElem?_cons_zero, List.getElem?_cons_succ]; rfl)); (case h1_13 => kernel_rfl); (case hq_13 => exact fun _ _ _ h => h); (case hw_13 => rfl); (case hy_13 => (intro w' hSw; (try simp only [S] at hSw); go_simp; (try with_reducible rfl))); (case hs_13 => assumption); (try simp only [Act.put, List.setIfInBounds_toArray, List.set_cons_zero, List.set_cons_succ])
    refine wpAnyH_take (i := 18) (oi := ?oi_14) (v := ?v_14) ?ho_14 ?h1_14 ?h2_14 ?h3_14 ?hq_14 (Or.inl ⟨?hw_14, ?hy_14⟩) ?hs_14 ?rest_14; (case h2_14 => kernel_rfl); (case h3_14 => kernel_rfl); (case ho_14 => (simp only [List.getElem?_toArray, List.getElem?_cons_zero, List.getElem?_cons_succ]; rfl)); (case h1_14 => kernel_rfl); (case hq_14 => exact fun _ _ _ h => h); (case hw_14 => rfl); (case hy_14 => (intro w' hSw; (try simp only [S] at hSw); go_simp; (try with_reducible rfl))); (case hs_14 => assumption); (try simp only [Act.put, List.setIfInBounds_toArray, List.set_cons_zero, List.set_cons_succ])
    refine wpAnyH_take (i := 19) (oi := ?oi_15) (v := ?v_15) ?ho_15 ?h1_15 ?h2_15 ?h3_15 ?hq_15 (Or.inl ⟨?hw_15, ?hy_15⟩) ?hs_15 ?rest_15; (case h2_15 => kernel_rfl); (case h3_15 => kernel_rfl); (case ho_15 => (simp only [List.getElem?_toArray, List.getElem?_cons_zero, List.getElem?_cons_succ]; rfl)); (case h1_15 => kernel_rfl); (case hq_15 => exact fun _ _ _ h => h); (case hw_15 => rfl); (case hy_15 => (intro w' hSw; (try simp only [S] at hSw); go_simp; (try with_reducible rfl))); (case hs_15 => assumption); (try simp only [Act.put, List.setIfInBounds_toArray, List.set_cons_zero, List.set_cons_succ])
    refine wpAnyH_take (i := 20) (oi := ?oi_19) (v := ?v_19) ?ho_19 ?h1_19 ?h2_19 ?h3_19 ?hq_19 (Or.inl ⟨?hw_19, ?hy_19⟩) ?hs_19 ?rest_19; (case h2_19 => kernel_rfl); (case h3_19 => kernel_rfl); (case ho_19 => (simp only [List.getElem?_toArray, List.getElem?_cons_zero, List.getElem?_cons_succ]; rfl)); (case h1_19 => kernel_rfl); (case hq_19 => exact fun _ _ _ h => h); (case hw_19 => rfl); (case hy_19 => (intro w' hSw; refine exec_load_row (x := .tmp 30) ?_ ?_ (q3 w' hSw) Try.underlying41 ?_ iU <;> rfl)); (case hs_19 => assumption); (try simp only [Act.put, List.setIfInBounds_toArray, List.set_cons_zero, List.set_cons_succ])
    have hSa : ∀ w', S w' → S (w'.alloc (.cells z.toArray 43)) := fun w' h => Below.alloc h (Below.size h) _
    have hSr : ∀ w', S w' → S (w'.setRow W.heap.size r.cells.toArray) := fun w' h => bSetRow h (Nat.le_refl _) _
    have z0 : W.drew.heap.size = W.heap.size := rfl
    refine wpAnyH_ready (rs := [1, 22]) (by kernel_rfl) (by simp) (AllReadyH.cons (o := ?oo1_23) ?hoo1_23 (fun K hK => ?step1) (AllReadyH.cons (o := ?oo22_23) ?hoo22_23 (fun K hK => ?step22) AllReadyH.nil)); (case hoo1_23 => (simp only [List.getElem?_toArray, List.getElem?_cons_zero, List.getElem?_cons_succ]; rfl)); (case hoo22_23 => (simp only [List.getElem?_toArray, List.getElem?_cons_zero, List.getElem?_cons_succ]; rfl))
    case step1 =>
      go_simp
      refine Calls.mono (t1 _ hS0) ?_
      rintro e w1 ⟨rfl, k1, hk1⟩
      have h1 : S w1 := by rw [hk1]; exact hSd _ _ hS0
      have z1 : w1.heap.size = W.heap.size := by rw [hk1]; exact z0
      clear hk1
      refine hK.out _ _ h1 (fun _ => ?_)
      clear hK K
      (try simp only [Act.put, List.setIfInBounds_toArray, List.set_cons_zero, List.set_cons_succ])
      refine wpAnyH_ready (rs := [4, 22]) (by kernel_rfl) (by simp) (AllReadyH.cons (o := ?oo4_24) ?hoo4_24 (fun K hK => ?stepX4) (AllReadyH.cons (o := ?oo22_24) ?hoo22_24 (fun K hK => ?stepX22) AllReadyH.nil)); (case hoo4_24 => (simp only [List.getElem?_toArray, List.getElem?_cons_zero, List.getElem?_cons_succ]; rfl)); (case hoo22_24 => (simp only [List.getElem?_toArray, List.getElem?_cons_zero, List.getElem?_cons_succ]; rfl))
      case stepX4 =>
        go_simp
        refine Calls.mono (t2 _ h1) ?_
        rintro e w4 ⟨rfl, k4, hk4⟩
        have h4 : S w4 := by rw [hk4]; exact hSd _ _ h1
        have z4 : w4.heap.size = W.heap.size := by rw [hk4]; exact z1
        clear hk4
        refine hK.out _ _ h4 (fun _ => ?_)
        clear hK K
        (try simp only [Act.put, List.setIfInBounds_toArray, List.set_cons_zero, List.set_cons_succ])
        refine wpAnyH_take (i := 21) (oi := ?oi_20) (v := ?v_20) ?ho_20 ?h1_20 ?h2_20 ?h3_20 ?hq_20 (Or.inl ⟨?hw_20, ?hy_20⟩) ?hs_20 ?rest_20; (case h2_20 => kernel_rfl); (case h3_20 => kernel_rfl); (case ho_20 => (simp only [List.getElem?_toArray, List.getElem?_cons_zero, List.getElem?_cons_succ]; rfl)); (case h1_20 => kernel_rfl); (case hq_20 => exact fun _ _ _ h => h); (case hw_20 => rfl); (case hy_20 => (intro w' hSw; refine exec_built (t := 43) (cs := r.cells.toArray) (parts := #[(0, .tmp 12), (1, .tmp 15), (5, .tmp 19), (2, .tmp 23), (3, .tmp 27), (4, .tmp 31)]) ?_ ?_ w'; exact rfl; simp only [List.map_toArray, List.map_cons, List.map_nil]; exact hbt)); (case hs_20 => assumption); (try simp only [Act.put, List.setIfInBounds_toArray, List.set_cons_zero, List.set_cons_succ])
        refine wpAnyH_ready (rs := [22]) (by kernel_rfl) (by simp) (AllReadyH.cons (o := ?oo22_25) ?hoo22_25 (fun K hK => ?steponly25) AllReadyH.nil); (case hoo22_25 => (simp only [List.getElem?_toArray, List.getElem?_cons_zero, List.getElem?_cons_succ]; rfl))
        refine step_new rfl hz rfl ?_
        have h2 : S (w4.alloc (.cells z.toArray 43)) := hSa _ h4
        have b2 : (w4.alloc (.cells z.toArray 43)).heap[W.heap.size]? = some (.cells z.toArray 43) := by have := heap_alloc_new w4 (.cells z.toArray 43); rwa [z4] at this
        rw [z4]
        refine hK.out _ _ h2 (fun _ => ?_)
        clear hK K
        (try simp only [Act.put, List.setIfInBounds_toArray, List.set_cons_zero, List.set_cons_succ])
        refine wpAnyH_ready (rs := [23]) (by kernel_rfl) (by simp) (AllReadyH.cons (o := ?oo23_26) ?hoo23_26 (fun K hK => ?steponly26) AllReadyH.nil); (case hoo23_26 => (simp only [List.getElem?_toArray, List.getElem?_cons_zero, List.getElem?_cons_succ]; rfl))
        refine step_row rfl 43 (.tmp 4) (.tmp 32) rfl W.heap.size r.cells.toArray rfl rfl _ z.toArray b2 hii hsz (all_oneCell_toArray hone2) ?_
        refine hK.out _ _ (hSr _ h2) (fun _ => ?_)
        clear hK K
        (try simp only [Act.put, List.setIfInBounds_toArray, List.set_cons_zero, List.set_cons_succ])
        refine wpAnyH_done (by kernel_rfl) ?_ _
        go_wp2_with fail
        go_meet
        case rel => exact ⟨rfl, setRow_heap _ _ _ _ _ _ b2, hSr _ h2⟩
      case stepX22 =>
        refine step_new rfl hz rfl ?_
        have h2 : S (w1.alloc (.cells z.toArray 43)) := hSa _ h1
        have b2 : (w1.alloc (.cells z.toArray 43)).heap[W.heap.size]? = some (.cells z.toArray 43) := by have := heap_alloc_new w1 (.cells z.toArray 43); rwa [z1] at this
        rw [z1]
        refine hK.out _ _ h2 (fun _ => ?_)
        clear hK K
        (try simp only [Act.put, List.setIfInBounds_toArray, List.set_cons_zero, List.set_cons_succ])
        refine wpAnyH_ready (rs := [4]) (by kernel_rfl) (by simp) (AllReadyH.cons (o := ?oo4_27) ?hoo4_27 (fun K hK => ?steponly27) AllReadyH.nil); (case hoo4_27 => (simp only [List.getElem?_toArray, List.getElem?_cons_zero, List.getElem?_cons_succ]; rfl))
        go_simp
        refine Calls.mono (t2 _ h2) ?_
        rintro e w4 ⟨rfl, k4, hk4⟩
        have h4 : S w4 := by rw [hk4]; exact hSd _ _ h2
        have b4 : w4.heap[W.heap.size]? = some (.cells z.toArray 43) := by rw [hk4]; exact b2
        clear hk4
        refine hK.out _ _ h4 (fun _ => ?_)
        clear hK K
        (try simp only [Act.put, List.setIfInBounds_toArray, List.set_cons_zero, List.set_cons_succ])
        refine wpAnyH_take (i := 21) (oi := ?oi_21) (v := ?v_21) ?ho_21 ?h1_21 ?h2_21 ?h3_21 ?hq_21 (Or.inl ⟨?hw_21, ?hy_21⟩) ?hs_21 ?rest_21; (case h2_21 => kernel_rfl); (case h3_21 => kernel_rfl); (case ho_21 => (simp only [List.getElem?_toArray, List.getElem?_cons_zero, List.getElem?_cons_succ]; rfl)); (case h1_21 => kernel_rfl); (case hq_21 => exact fun _ _ _ h => h); (case hw_21 => rfl); (case hy_21 => (intro w' hSw; refine exec_built (t := 43) (cs := r.cells.toArray) (parts := #[(0, .tmp 12), (1, .tmp 15), (5, .tmp 19), (2, .tmp 23), (3, .tmp 27), (4, .tmp 31)]) ?_ ?_ w'; exact rfl; simp only [List.map_toArray, List.map_cons, List.map_nil]; exact hbt)); (case hs_21 => assumption); (try simp only [Act.put, List.setIfInBounds_toArray, List.set_cons_zero, List.set_cons_succ])
        refine wpAnyH_ready (rs := [23]) (by kernel_rfl) (by simp) (AllReadyH.cons (o := ?oo23_28) ?hoo23_28 (fun K hK => ?steponly28) AllReadyH.nil); (case hoo23_28 => (simp only [List.getElem?_toArray, List.getElem?_cons_zero, List.getElem?_cons_succ]; rfl))
        refine step_row rfl 43 (.tmp 4) (.tmp 32) rfl W.heap.size r.cells.toArray rfl rfl _ z.toArray b4 hii hsz (all_oneCell_toArray hone2) ?_
        refine hK.out _ _ (hSr _ h4) (fun _ => ?_)
        clear hK K
        (try simp only [Act.put, List.setIfInBounds_toArray, List.set_cons_zero, List.set_cons_succ])
        refine wpAnyH_done (by kernel_rfl) ?_ _
        go_wp2_with fail
        go_meet
        case rel => exact ⟨rfl, setRow_heap _ _ _ _ _ _ b4, hSr _ h4⟩
    case step22 =>
      refine step_new rfl hz rfl ?_
      have h2 : S (W.drew.alloc (.cells z.toArray 43)) := hSa _ hS0
      have b2 : (W.drew.alloc (.cells z.toArray 43)).heap[W.heap.size]? = some (.cells z.toArray 43) := by have := heap_alloc_new W.drew (.cells z.toArray 43); rwa [z0] at this
      rw [z0]
      refine hK.out _ _ h2 (fun _ => ?_)
      clear hK K
      (try simp only [Act.put, List.setIfInBounds_toArray, List.set_cons_zero, List.set_cons_succ])
      refine wpAnyH_ready (rs := [1]) (by kernel_rfl) (by simp) (AllReadyH.cons (o := ?oo1_29) ?hoo1_29 (fun K hK => ?steponly29) AllReadyH.nil); (case hoo1_29 => (simp only [List.getElem?_toArray, List.getElem?_cons_zero, List.getElem?_cons_succ]; rfl))
      go_simp
      refine Calls.mono (t1 _ h2) ?_
      rintro e w1 ⟨rfl, k1, hk1⟩
      have h1 : S w1 := by rw [hk1]; exact hSd _ _ h2
      have b1 : w1.heap[W.heap.size]? = some (.cells z.toArray 43) := by rw [hk1]; exact b2
      clear hk1
      refine hK.out _ _ h1 (fun _ => ?_)
      clear hK K
      (try simp only [Act.put, List.setIfInBounds_toArray, List.set_cons_zero, List.set_cons_succ])
      refine wpAnyH_ready (rs := [4]) (by kernel_rfl) (by simp) (AllReadyH.cons (o := ?oo4_30) ?hoo4_30 (fun K hK => ?steponly30) AllReadyH.nil); (case hoo4_30 => (simp only [List.getElem?_toArray, List.getElem?_cons_zero, List.getElem?_cons_succ]; rfl))
      go_simp
      refine Calls.mono (t2 _ h1) ?_
      rintro e w4 ⟨rfl, k4, hk4⟩
      have h4 : S w4 := by rw [hk4]; exact hSd _ _ h1
      have b4 : w4.heap[W.heap.size]? = some (.cells z.toArray 43) := by rw [hk4]; exact b1
      clear hk4
      refine hK.out _ _ h4 (fun _ => ?_)
      clear hK K
      (try simp only [Act.put, List.setIfInBounds_toArray, List.set_cons_zero, List.set_cons_succ])
      refine wpAnyH_take (i := 21) (oi := ?oi_22) (v := ?v_22) ?ho_22 ?h1_22 ?h2_22 ?h3_22 ?hq_22 (Or.inl ⟨?hw_22, ?hy_22⟩) ?hs_22 ?rest_22; (case h2_22 => kernel_rfl); (case h3_22 => kernel_rfl); (case ho_22 => (simp only [List.getElem?_toArray, List.getElem?_cons_zero, List.getElem?_cons_succ]; rfl)); (case h1_22 => kernel_rfl); (case hq_22 => exact fun _ _ _ h => h); (case hw_22 => rfl); (case hy_22 => (intro w' hSw; refine exec_built (t := 43) (cs := r.cells.toArray) (parts := #[(0, .tmp 12), (1, .tmp 15), (5, .tmp 19), (2, .tmp 23), (3, .tmp 27), (4, .tmp 31)]) ?_ ?_ w'; exact rfl; simp only [List.map_toArray, List.map_cons, List.map_nil]; exact hbt)); (case hs_22 => assumption); (try simp only [Act.put, List.setIfInBounds_toArray, List.set_cons_zero, List.set_cons_succ])
      refine wpAnyH_ready (rs := [23]) (by kernel_rfl) (by simp) (AllReadyH.cons (o := ?oo23_31) ?hoo23_31 (fun K hK => ?steponly31) AllReadyH.nil); (case hoo23_31 => (simp only [List.getElem?_toArray, List.getElem?_cons_zero, List.getElem?_cons_succ]; rfl))
      refine step_row rfl 43 (.tmp 4) (.tmp 32) rfl W.heap.size r.cells.toArray rfl rfl _ z.toArray b4 hii hsz (all_oneCell_toArray hone2) ?_
      refine hK.out _ _ (hSr _ h4) (fun _ => ?_)
      clear hK K
      (try simp only [Act.put, List.setIfInBounds_toArray, List.set_cons_zero, List.set_cons_succ])
      refine wpAnyH_done (by kernel_rfl) ?_ _
      go_wp2_with fail
      go_meet
      case rel => exact ⟨rfl, setRow_heap _ _ _ _ _ _ b4, hSr _ h4⟩
  case rest =>
    obtain ⟨rfl, b4, hbc⟩ := hcut
    have hBc := hBW.trans (hbc.mono hBW.size)
    have b2 := bBlk hbc hzW a2
    have hrr := rev_any hrev
    unfold rvv EncP at hrr
    clear ht1 ht2 hbt k4 r1 r2 r3 hr hsl htl hul hz a2 hrev hbw
    clear hbc hB hBW
    go_wp2_with (first
      | (refine wpList_load_row rfl 43 (.tmp 4) rfl _ rfl _ r.cells.toArray (0, 0) _ b4 Try.underlying43 rfl hii ?_)
      | fail)
    refine Calls.mono (hrr _) ?_
    rintro e X ⟨A2, n2, cc2, rfl, -, -, -, -, -, hbX⟩
    have y4 := bBlk hbX (Array.getElem?_eq_some_iff.1 b4).1 b4
    have y2 := bBlk hbX (Array.getElem?_eq_some_iff.1 b2).1 b2
    have hBX := hBc.trans (hbX.mono hBc.size)
    clear hrr hbX b4 b2 hBc
    obtain ⟨V, hV1⟩ : ∃ V, X.setRow w.heap.size z.toArray = V := ⟨_, rfl⟩
    have v2 : V.heap[w.heap.size]? = some (.cells z.toArray 43) := by rw [← hV1]; exact setRow_heap _ _ _ _ _ _ y2
    have hBV : Below w.heap.size w V := by rw [← hV1]; exact bSetRow hBX (Nat.le_refl _) _
    obtain ⟨U, hU1⟩ : ∃ V, X.setRow w.heap.size r.cells.toArray = V := ⟨_, rfl⟩
    have u2 : U.heap[w.heap.size]? = some (.cells r.cells.toArray 43) := by rw [← hU1]; exact setRow_heap _ _ _ _ _ _ y2
    have hBU : Below w.heap.size w U := by rw [← hU1]; exact bSetRow hBX (Nat.le_refl _) _
    have hldV := run_loadVar_row (P := Try.prog) V _ _ 43 _ _ _ v2 Try.underlying43 rfl hin
    have hldU := run_loadVar_row (P := Try.prog) U _ _ 43 _ _ _ u2 Try.underlying43 rfl hii
    obtain ⟨g, hg⟩ : ∃ g, r.good = g := ⟨_, rfl⟩
    rw [hg] at hR
    have HB := Lib.hid (And.intro hBV hBU)
    clear hBV hBU hBX v2 u2
    rw [hg]
    have HG := Lib.hid hg
    clear hg
    cases g
    · rw [show erF false = 11 from rfl]
      clear hldU hU1
      go_wp2_with (first
        | (refine wpList_built rfl 43 #[] rfl (cs := z.toArray) (by simp only [List.map_toArray, List.map_nil]; exact hb0) ?_)
        | (refine wpList_store_row rfl 43 (.tmp 2) (.tmp 40) rfl _ z.toArray rfl rfl _ z.toArray y2 hin rfl (all_oneCell_toArray hone) ?_)
        | fail)
      try rw [hV1]
      refine bodyPost_ret (by simp [results, Try.results22, Act.put, asAddr, Result.andThen, hldV]; try rfl) rfl ?_
      exact Ret.mk (by rw [hV.out, hR.out]; simp only [Bool.false_eq_true, if_false, HZ.out, erF]) HB.out.1
    · rw [show erF true = 0 from rfl]
      clear hldV hV1
      go_wp2_with (first
        | (refine wpList_load_row rfl 43 (.tmp 4) rfl _ rfl _ r.cells.toArray (0, 0) _ y4 Try.underlying43 rfl hii ?_)
        | (refine wpList_store_row rfl 43 (.tmp 2) (.tmp 41) rfl _ r.cells.toArray rfl rfl _ z.toArray y2 hii hsz (all_oneCell_toArray hone2) ?_)
        | fail)
      try rw [hU1]
      refine bodyPost_ret (by simp [results, Try.results22, Act.put, asAddr, Result.andThen, hldU]; try rfl) rfl ?_
      exact Ret.mk (by rw [hV.out, hR.out]; simp only [if_true, erF]) HB.out.2
end Go.Proofs.Ytjfkaebikmnnaaa
