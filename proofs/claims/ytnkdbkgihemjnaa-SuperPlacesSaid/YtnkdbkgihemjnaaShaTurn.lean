/- The walk over sha.turn. -/
import Derived.Test.YtnkdbkgihemjnaaShaSch
namespace Go.Proofs.Ytnkdbkgihemjnaa
set_option linter.unusedSimpArgs false
set_option linter.unusedVariables false
open Go.RowKit

theorem St.list_len (s : St) : s.list.length = 8 := rfl
def St.vals (s : St) : Array Value := #[wv s.a, wv s.b, wv s.c, wv s.d, wv s.e, wv s.f, wv s.g, wv s.h]
theorem St.vals_eq (s : St) : (wvs s.list).toArray = s.vals := rfl
theorem built8 (a b c d e f g h : W32) : Try.prog.built 144 [(0, wv a), (1, wv b), (2, wv c), (3, wv d), (4, wv e), (5, wv f), (6, wv g), (7, wv h)] = some (St.vals ⟨a, b, c, d, e, f, g, h⟩) := by
  unfold wv St.vals wv
  kernel_rfl
def addTo (V M : List W32) : Nat → List W32
  | 0 => V
  | i + 1 => (addTo V M i).set i (wAt V i + wAt M i)
theorem addTo_len (V M : List W32) (i : Nat) : (addTo V M i).length = V.length := by
  induction i with
  | zero => rfl
  | succ i ih => rw [addTo, List.length_set, ih]
theorem addTo_at (V M : List W32) {i j : Nat} (h : i ≤ j) : (addTo V M i)[j]? = V[j]? := by
  induction i with
  | zero => rfl
  | succ i ih => rw [addTo, List.getElem?_set_ne (by omega), ih (by omega)]
theorem plus_list (s v : St) : (plus s v).list = addTo v.list s.list 8 := rfl
theorem hnot : (if IntKind.u32.signed = true then -1 else IntKind.u32.max) = 4294967295 := by decide
theorem u32_sizeOf (w : World) : (sizeOf 32).run Try.prog w = .ok 1 w := by
  have h : (Try.prog.info? 32).map (·.size) = some 1 := by kernel_rfl
  cases hq : Try.prog.info? 32 with
  | none => rw [hq] at h; cases h
  | some i =>
    rw [hq] at h
    have hs : i.size = 1 := by simpa using h
    simp [sizeOf, typeInfo, hq, hs]
theorem run_index_w {t : TypeId} {n : Nat} (hu : Try.prog.underlying t = some (.array n 32)) {l : List W32} {k : Nat} {x : W32} (hk : k < n) (h : l[k]? = some x) (W : World) :
    (Instr.index t (.agg (wvs l).toArray) (.int .i64 k)).run Try.prog W = .ok (.int .u32 ((x.toNat : Nat) : Int)) W := by
  have h1 : (part 32 (wvs l).toArray k).run Try.prog W = .ok (.int .u32 ((x.toNat : Nat) : Int)) W := run_part_plain W (e := 32) (by kernel_rfl) (wvs_at h)
  have h2 : (0 : Int) ≤ (k : Int) ∧ (k : Int) < (n : Int) := by omega
  have h3 := u32_sizeOf W
  simp [Instr.index, run_underlying hu, asIntOf, h2.1, h2.2, h3, h1]
  intro hh; omega
set_option maxHeartbeats 4000000 in
set_option maxRecDepth 100000 in
theorem turn_any (s : St) {p : List UInt8} (hp : p.length = 64) {B c : Nat} {A : Option Addr} (hc : 64 ≤ c) (hcm : c ≤ maxLen) (w : World) (hB0 : B ≤ w.heap.size) (hs : Sl w B 1 A 64 (bvs p)) :
    Calls Try.prog 89 #[wsv s.list, .slice A 64 c] w (Ret w (wsv (comp s p).list)) := by
  have hk := fun W => consts_any W
  have hsc := fun W (h1 : B ≤ W.heap.size) (h : Sl W B 1 A 64 (bvs p)) => schedule_any hp hc hcm W h1 h
  have hkl := kTab_len
  have hsl := St.list_len s
  have hz8 : z8.length = 8 := rfl
  have hrun := fun W => run_zero w8Z W
  unfold wsv at *
  go_enter Try.func89, Try.ntmps89
  obtain ⟨M, hM⟩ : ∃ M, s.list = M := ⟨_, rfl⟩
  rw [hM] at hsl ⊢
  go_wp2_with (first
    | (refine wpList_new rfl w8Z rfl ?_)
    | (refine wpList_new rfl w64Z rfl ?_)
    | fail)
  have a2 : ((w.alloc (.cells (wvs M).toArray 144)).alloc (.cells (wvs z8).toArray 144)).heap[w.heap.size]? = some (.cells (wvs M).toArray 144) := heap_alloc_fst _ _ _
  have a4 : ((w.alloc (.cells (wvs M).toArray 144)).alloc (.cells (wvs z8).toArray 144)).heap[w.heap.size + 1]? = some (.cells (wvs z8).toArray 144) := heap_alloc_two _ _ _
  have hB0' : Below w.heap.size w ((w.alloc (.cells (wvs M).toArray 144)).alloc (.cells (wvs z8).toArray 144)) := ((Below.refl _ _).alloc (Nat.le_refl _) _).alloc (by simp) _
  generalize World.alloc (World.alloc w _) _ = W0 at *
  refine (hk _).mono ?_
  rintro e W1 ⟨rfl, hb1⟩
  have hz0 : w.heap.size + 1 < W0.heap.size := (Array.getElem?_eq_some_iff.1 a4).1
  have hz1 := hb1.size
  replace a2 := bBlk hb1 (by omega) a2
  replace a4 := bBlk hb1 (by omega) a4
  have hB1 := hB0'.trans (hb1.mono (by omega))
  clear hB0' hb1 hk
  obtain ⟨KT, hKT⟩ : ∃ l, kTab = l := ⟨_, rfl⟩
  rw [hKT] at hkl ⊢
  go_upto_region 2 with (first
    | (refine wpList_new rfl w64Z rfl ?_)
    | (refine wpList_store_row rfl 153 (.tmp 5) (.tmp 12) rfl _ (wvs KT).toArray rfl rfl _ (wvs z64).toArray (heap_alloc_new _ _) (w64_info hkl) (ws_sizes rfl hkl) (all_oneCell_toArray (oneCell_wvs _)) ?_)
    | fail)
  generalize hX : World.setRow _ _ _ = X
  have a5 : X.heap[W1.heap.size]? = some (.cells (wvs KT).toArray 153) := by rw [← hX]; exact setRow_heap _ _ _ _ _ _ (heap_alloc_new _ _)
  have hbX : Below W1.heap.size W1 X := by rw [← hX]; exact bSetRow ((Below.refl _ _).alloc (Nat.le_refl _) _) (Nat.le_refl _) _
  replace a2 := bBlk hbX (by omega) a2
  replace a4 := bBlk hbX (by omega) a4
  have hBX := hB1.trans (hbX.mono (by omega))
  have hz2 : W1.heap.size < X.heap.size := (Array.getElem?_eq_some_iff.1 a5).1
  clear hX hbX hB1
  go_upto_region 3 with (first
    | (refine wpList_new rfl w8Z rfl ?_)
    | (refine wpList_load_row rfl 144 (.tmp 2) rfl _ rfl _ (wvs M).toArray (0, 0) _ a2 Try.underlying144 rfl (w8_info hsl) ?_)
    | (refine wpList_store_row rfl 144 (.tmp 6) (.tmp 13) rfl _ (wvs M).toArray rfl rfl _ (wvs z8).toArray (heap_alloc_new _ _) (w8_info hsl) (ws_sizes hz8 hsl) (all_oneCell_toArray (oneCell_wvs _)) ?_)
    | fail)
  generalize hY : World.setRow _ _ _ = Y
  have a6 : Y.heap[X.heap.size]? = some (.cells (wvs M).toArray 144) := by rw [← hY]; exact setRow_heap _ _ _ _ _ _ (heap_alloc_new _ _)
  have hbY : Below X.heap.size X Y := by rw [← hY]; exact bSetRow ((Below.refl _ _).alloc (Nat.le_refl _) _) (Nat.le_refl _) _
  replace a2 := bBlk hbY (by omega) a2
  replace a4 := bBlk hbY (by omega) a4
  replace a5 := bBlk hbY (by omega) a5
  have hBY := hBX.trans (hbY.mono (by omega))
  have hz3 : X.heap.size < Y.heap.size := (Array.getElem?_eq_some_iff.1 a6).1
  clear hY hbY hBX
  have hscY := hsc Y (by omega) (hs.below (hBY.mono hB0))
  go_wp2_with fail
  refine hscY.mono ?_
  rintro e Z ⟨rfl, hb2⟩
  replace a2 := bBlk hb2 (by omega) a2
  replace a4 := bBlk hb2 (by omega) a4
  replace a5 := bBlk hb2 (by omega) a5
  replace a6 := bBlk hb2 (by omega) a6
  have hBZ := hBY.trans (hb2.mono (by omega))
  have hz4 := hb2.size
  clear hscY hsc hb2 hBY hs
  have hwl := sch_len p 64
  have HC : Hid ((comp s p).list = (plus s (rnds s (sch p 64) 64)).list) := Lib.hid rfl
  obtain ⟨WS, hWS⟩ : ∃ l, sch p 64 = l := ⟨_, rfl⟩
  rw [hWS] at hwl HC ⊢
  obtain ⟨RV, hRV⟩ : ∃ v, (comp s p).list = v := ⟨_, rfl⟩
  rw [hRV] at HC ⊢
  clear hWS hp hcm hc hB0
  have a6' : Z.heap[X.heap.size]? = some (.cells (wvs (rnds s WS 0).list).toArray 144) := by show _ = some (Obj.cells (wvs s.list).toArray _ (0, 0)); rw [hM]; exact a6
  have hd : w.heap.size ≠ X.heap.size ∧ w.heap.size + 1 ≠ X.heap.size ∧ W1.heap.size ≠ X.heap.size ∧ w.heap.size ≤ X.heap.size := by omega
  obtain ⟨g6, hg6⟩ : ∃ g, X.heap.size = g := ⟨_, rfl⟩
  obtain ⟨g5, hg5⟩ : ∃ g, W1.heap.size = g := ⟨_, rfl⟩
  rw [hg6] at a6' hd ⊢
  rw [hg5] at a5 hd ⊢
  clear a6 hz0 hz1 hz2 hz3 hz4 hg6 hg5
  go_wp2_with fail
  go_loopw [16] (fun i wr => ∃ t : Nat, i = .int .i64 t ∧ t ≤ 64 ∧ wr.heap[w.heap.size]? = some (.cells (wvs M).toArray 144) ∧ wr.heap[w.heap.size + 1]? = some (.cells (wvs z8).toArray 144) ∧ wr.heap[g5]? = some (.cells (wvs KT).toArray 153) ∧ wr.heap[g6]? = some (.cells (wvs (rnds s WS t).list).toArray 144) ∧ Below w.heap.size w wr) (fun i _ => 64 - (intOf i).toNat)
  case atStart => exact ⟨0, rfl, by omega, a2, a4, a5, a6', hBZ⟩
  case round =>
    clear a2 a4 a5 a6' hBZ
    obtain ⟨t, rfl, ht, a2, a4, a5, a6, hB⟩ := hrel
    by_cases hlt : t < 64
    · have g1 : (t : Int) < 64 := by omega
      obtain ⟨ww, hww⟩ : ∃ x, WS[t]? = some x := ⟨_, List.getElem?_eq_getElem (by omega)⟩
      obtain ⟨kk, hkk⟩ : ∃ x, KT[t]? = some x := ⟨_, List.getElem?_eq_getElem (by omega)⟩
      have HR : Hid (rnds s WS (t + 1) = rnd (rnds s WS t) kk ww) := Lib.hid (by rw [rnds, hKT]; unfold wAt; rw [hww, hkk]; rfl)
      obtain ⟨v, hv⟩ : ∃ v, rnds s WS t = v := ⟨_, rfl⟩
      rw [hv] at HR a6
      obtain ⟨va, vb, vc, vd, ve, vf, vg, vh⟩ := v
      have kc := blk_cell a5 (wvs_at hkk)
      have wc := fun W => run_index_w (t := 153) (n := 64) Try.underlying153 hlt hww W
      have c0 := blk_cell (k := 0) a6 rfl
      have c1 := blk_cell (k := 1) a6 rfl
      have c2 := blk_cell (k := 2) a6 rfl
      have c3 := blk_cell (k := 3) a6 rfl
      have c4 := blk_cell (k := 4) a6 rfl
      have c5 := blk_cell (k := 5) a6 rfl
      have c6 := blk_cell (k := 6) a6 rfl
      have c7 := blk_cell (k := 7) a6 rfl
      unfold wv at c0 c1 c2 c3 c4 c5 c6 c7
      clear hv hww hkk
      have hz1 : g6 < wr.heap.size := (Array.getElem?_eq_some_iff.1 a6).1
      have hz2 : g5 < wr.heap.size := (Array.getElem?_eq_some_iff.1 a5).1
      have hzr := hB.size
      obtain ⟨rE, hrE⟩ : ∃ r, ror ve 6 ^^^ ror ve 11 ^^^ ror ve 25 = r := ⟨_, rfl⟩
      obtain ⟨rA, hrA⟩ : ∃ r, ror va 2 ^^^ ror va 13 ^^^ ror va 22 = r := ⟨_, rfl⟩
      have hE := fun W g h => turned3 ve 6 11 25 (by omega) (by omega) (by omega) W g h
      have hA := fun W g h => turned3 va 2 13 22 (by omega) (by omega) (by omega) W g h
      rw [hrE] at hE
      rw [hrA] at hA
      have HX : Hid (rx ⟨va, vb, vc, vd, ve, vf, vg, vh⟩ kk ww = vh + rE + cho ve vf vg + kk + ww) := Lib.hid (by unfold rx big1; rw [hrE])
      have HY : Hid (ry ⟨va, vb, vc, vd, ve, vf, vg, vh⟩ = rA + most va vb vc) := Lib.hid (by unfold ry big0; rw [hrA])
      clear hrE hrA
      let S : World → Prop := fun w' => w'.cell? ⟨g6, 4, none⟩ = some (.int .u32 (ve.toNat : Int)) ∧ w'.cell? ⟨g6, 5, none⟩ = some (.int .u32 (vf.toNat : Int)) ∧ w'.cell? ⟨g6, 6, none⟩ = some (.int .u32 (vg.toNat : Int)) ∧ w'.cell? ⟨g6, 7, none⟩ = some (.int .u32 (vh.toNat : Int)) ∧ w'.cell? ⟨g5, t, none⟩ = some (.int .u32 (kk.toNat : Int))
      have hS0 : S wr.drew := ⟨c4, c5, c6, c7, kc⟩
      have hS1 : ∀ o : Obj, S (wr.drew.alloc o) := fun o => ⟨(World.cell?_alloc_lt _ _ _ hz1).trans c4, (World.cell?_alloc_lt _ _ _ hz1).trans c5, (World.cell?_alloc_lt _ _ _ hz1).trans c6, (World.cell?_alloc_lt _ _ _ hz1).trans c7, (World.cell?_alloc_lt _ _ _ hz2).trans kc⟩
      go_upto_region 6 with (fail)
      refine wp_region_held (S := S) (by kernel_rfl) ?_
      change wpAnyH _ _ _ _ S _ _ _ wr.drew
      refine wpAnyH_take (i := 0) (oi := ?oi_94) (v := ?v_94) ?ho_94 ?h1_94 ?h2_94 ?h3_94 ?hq_94 (Or.inl ⟨?hw_94, ?hy_94⟩) ?hs_94 ?rest_94; (case h2_94 => kernel_rfl); (case h3_94 => kernel_rfl); (case ho_94 => (simp only [List.getElem?_toArray, List.getElem?_cons_zero, List.getElem?_cons_succ]; rfl)); (case h1_94 => kernel_rfl); (case hq_94 => exact fun _ _ _ h => h); (case hw_94 => rfl); (case hy_94 => (intro w' hSw; (try simp only [S] at hSw); go_simp; (try with_reducible rfl))); (case hs_94 => assumption); (try simp only [Act.put, List.setIfInBounds_toArray, List.set_cons_zero, List.set_cons_succ])
      refine wpAnyH_take (i := 1) (oi := ?oi_95) (v := ?v_95) ?ho_95 ?h1_95 ?h2_95 ?h3_95 ?hq_95 (Or.inl ⟨?hw_95, ?hy_95⟩) ?hs_95 ?rest_95; (case h2_95 => kernel_rfl); (case h3_95 => kernel_rfl); (case ho_95 => (simp only [List.getElem?_toArray, List.getElem?_cons_zero, List.getElem?_cons_succ]; rfl)); (case h1_95 => kernel_rfl); (case hq_95 => exact fun _ _ _ h => h); (case hw_95 => rfl); (case hy_95 => (intro w' hSw; (try simp only [S] at hSw); go_simp; (try with_reducible rfl))); (case hs_95 => assumption); (try simp only [Act.put, List.setIfInBounds_toArray, List.set_cons_zero, List.set_cons_succ])
      refine wpAnyH_take (i := 2) (oi := ?oi_96) (v := ?v_96) ?ho_96 ?h1_96 ?h2_96 ?h3_96 ?hq_96 (Or.inl ⟨?hw_96, ?hy_96⟩) ?hs_96 ?rest_96; (case h2_96 => kernel_rfl); (case h3_96 => kernel_rfl); (case ho_96 => (simp only [List.getElem?_toArray, List.getElem?_cons_zero, List.getElem?_cons_succ]; rfl)); (case h1_96 => kernel_rfl); (case hq_96 => exact fun _ _ _ h => h); (case hw_96 => rfl); (case hy_96 => (intro w' hSw; (try simp only [S] at hSw); go_simp; (try with_reducible rfl))); (case hs_96 => assumption); (try simp only [Act.put, List.setIfInBounds_toArray, List.set_cons_zero, List.set_cons_succ])
      refine wpAnyH_take (i := 3) (oi := ?oi_97) (v := ?v_97) ?ho_97 ?h1_97 ?h2_97 ?h3_97 ?hq_97 (Or.inl ⟨?hw_97, ?hy_97⟩) ?hs_97 ?rest_97; (case h2_97 => kernel_rfl); (case h3_97 => kernel_rfl); (case ho_97 => (simp only [List.getElem?_toArray, List.getElem?_cons_zero, List.getElem?_cons_succ]; rfl)); (case h1_97 => kernel_rfl); (case hq_97 => exact fun _ _ _ h => h); (case hw_97 => rfl); (case hy_97 => (intro w' hSw; (try simp only [S] at hSw); go_simp; (try with_reducible rfl))); (case hs_97 => assumption); (try simp only [Act.put, List.setIfInBounds_toArray, List.set_cons_zero, List.set_cons_succ])
      refine wpAnyH_take (i := 7) (oi := ?oi_98) (v := ?v_98) ?ho_98 ?h1_98 ?h2_98 ?h3_98 ?hq_98 (Or.inl ⟨?hw_98, ?hy_98⟩) ?hs_98 ?rest_98; (case h2_98 => kernel_rfl); (case h3_98 => kernel_rfl); (case ho_98 => (simp only [List.getElem?_toArray, List.getElem?_cons_zero, List.getElem?_cons_succ]; rfl)); (case h1_98 => kernel_rfl); (case hq_98 => exact fun _ _ _ h => h); (case hw_98 => rfl); (case hy_98 => (intro w' hSw; (try simp only [S] at hSw); go_simp; (try with_reducible rfl))); (case hs_98 => assumption); (try simp only [Act.put, List.setIfInBounds_toArray, List.set_cons_zero, List.set_cons_succ])
      refine wpAnyH_take (i := 8) (oi := ?oi_99) (v := ?v_99) ?ho_99 ?h1_99 ?h2_99 ?h3_99 ?hq_99 (Or.inl ⟨?hw_99, ?hy_99⟩) ?hs_99 ?rest_99; (case h2_99 => kernel_rfl); (case h3_99 => kernel_rfl); (case ho_99 => (simp only [List.getElem?_toArray, List.getElem?_cons_zero, List.getElem?_cons_succ]; rfl)); (case h1_99 => kernel_rfl); (case hq_99 => exact fun _ _ _ h => h); (case hw_99 => rfl); (case hy_99 => (intro w' hSw; (try simp only [S] at hSw); go_simp; (try with_reducible rfl))); (case hs_99 => assumption); (try simp only [Act.put, List.setIfInBounds_toArray, List.set_cons_zero, List.set_cons_succ])
      refine wpAnyH_take (i := 9) (oi := ?oi_100) (v := ?v_100) ?ho_100 ?h1_100 ?h2_100 ?h3_100 ?hq_100 (Or.inl ⟨?hw_100, ?hy_100⟩) ?hs_100 ?rest_100; (case h2_100 => kernel_rfl); (case h3_100 => kernel_rfl); (case ho_100 => (simp only [List.getElem?_toArray, List.getElem?_cons_zero, List.getElem?_cons_succ]; rfl)); (case h1_100 => kernel_rfl); (case hq_100 => exact fun _ _ _ h => h); (case hw_100 => rfl); (case hy_100 => (intro w' hSw; (try simp only [S] at hSw); go_simp; (try with_reducible rfl))); (case hs_100 => assumption); (try simp only [Act.put, List.setIfInBounds_toArray, List.set_cons_zero, List.set_cons_succ])
      refine wpAnyH_take (i := 10) (oi := ?oi_101) (v := ?v_101) ?ho_101 ?h1_101 ?h2_101 ?h3_101 ?hq_101 (Or.inl ⟨?hw_101, ?hy_101⟩) ?hs_101 ?rest_101; (case h2_101 => kernel_rfl); (case h3_101 => kernel_rfl); (case ho_101 => (simp only [List.getElem?_toArray, List.getElem?_cons_zero, List.getElem?_cons_succ]; rfl)); (case h1_101 => kernel_rfl); (case hq_101 => exact fun _ _ _ h => h); (case hw_101 => rfl); (case hy_101 => (intro w' hSw; (try simp only [S] at hSw); go_simp; (try with_reducible rfl))); (case hs_101 => assumption); (try simp only [Act.put, List.setIfInBounds_toArray, List.set_cons_zero, List.set_cons_succ])
      refine wpAnyH_take (i := 11) (oi := ?oi_102) (v := ?v_102) ?ho_102 ?h1_102 ?h2_102 ?h3_102 ?hq_102 (Or.inl ⟨?hw_102, ?hy_102⟩) ?hs_102 ?rest_102; (case h2_102 => kernel_rfl); (case h3_102 => kernel_rfl); (case ho_102 => (simp only [List.getElem?_toArray, List.getElem?_cons_zero, List.getElem?_cons_succ]; rfl)); (case h1_102 => kernel_rfl); (case hq_102 => exact fun _ _ _ h => h); (case hw_102 => rfl); (case hy_102 => (intro w' hSw; (try simp only [S] at hSw); go_simp; (try with_reducible rfl))); (case hs_102 => assumption); (try simp only [Act.put, List.setIfInBounds_toArray, List.set_cons_zero, List.set_cons_succ])
      refine wpAnyH_take (i := 12) (oi := ?oi_103) (v := ?v_103) ?ho_103 ?h1_103 ?h2_103 ?h3_103 ?hq_103 (Or.inl ⟨?hw_103, ?hy_103⟩) ?hs_103 ?rest_103; (case h2_103 => kernel_rfl); (case h3_103 => kernel_rfl); (case ho_103 => (simp only [List.getElem?_toArray, List.getElem?_cons_zero, List.getElem?_cons_succ]; rfl)); (case h1_103 => kernel_rfl); (case hq_103 => exact fun _ _ _ h => h); (case hw_103 => rfl); (case hy_103 => (intro w' hSw; (try simp only [S] at hSw); go_simp; (try with_reducible rfl))); (case hs_103 => assumption); (try simp only [Act.put, List.setIfInBounds_toArray, List.set_cons_zero, List.set_cons_succ])
      refine wpAnyH_take (i := 13) (oi := ?oi_104) (v := ?v_104) ?ho_104 ?h1_104 ?h2_104 ?h3_104 ?hq_104 (Or.inl ⟨?hw_104, ?hy_104⟩) ?hs_104 ?rest_104; (case h2_104 => kernel_rfl); (case h3_104 => kernel_rfl); (case ho_104 => (simp only [List.getElem?_toArray, List.getElem?_cons_zero, List.getElem?_cons_succ]; rfl)); (case h1_104 => kernel_rfl); (case hq_104 => exact fun _ _ _ h => h); (case hw_104 => rfl); (case hy_104 => (intro w' hSw; (try simp only [S] at hSw); go_simp; (try with_reducible rfl))); (case hs_104 => assumption); (try simp only [Act.put, List.setIfInBounds_toArray, List.set_cons_zero, List.set_cons_succ])
      refine wpAnyH_take (i := 14) (oi := ?oi_105) (v := ?v_105) ?ho_105 ?h1_105 ?h2_105 ?h3_105 ?hq_105 (Or.inl ⟨?hw_105, ?hy_105⟩) ?hs_105 ?rest_105; (case h2_105 => kernel_rfl); (case h3_105 => kernel_rfl); (case ho_105 => (simp only [List.getElem?_toArray, List.getElem?_cons_zero, List.getElem?_cons_succ]; rfl)); (case h1_105 => kernel_rfl); (case hq_105 => exact fun _ _ _ h => h); (case hw_105 => rfl); (case hy_105 => (intro w' hSw; (try simp only [S] at hSw); go_simp; (try with_reducible rfl))); (case hs_105 => assumption); (try simp only [Act.put, List.setIfInBounds_toArray, List.set_cons_zero, List.set_cons_succ])
      refine wpAnyH_take (i := 15) (oi := ?oi_106) (v := ?v_106) ?ho_106 ?h1_106 ?h2_106 ?h3_106 ?hq_106 (Or.inl ⟨?hw_106, ?hy_106⟩) ?hs_106 ?rest_106; (case h2_106 => kernel_rfl); (case h3_106 => kernel_rfl); (case ho_106 => (simp only [List.getElem?_toArray, List.getElem?_cons_zero, List.getElem?_cons_succ]; rfl)); (case h1_106 => kernel_rfl); (case hq_106 => exact fun _ _ _ h => h); (case hw_106 => rfl); (case hy_106 => (intro w' hSw; (try simp only [S] at hSw); go_simp; (try with_reducible rfl))); (case hs_106 => assumption); (try simp only [Act.put, List.setIfInBounds_toArray, List.set_cons_zero, List.set_cons_succ])
      refine wpAnyH_take (i := 16) (oi := ?oi_107) (v := ?v_107) ?ho_107 ?h1_107 ?h2_107 ?h3_107 ?hq_107 (Or.inl ⟨?hw_107, ?hy_107⟩) ?hs_107 ?rest_107; (case h2_107 => kernel_rfl); (case h3_107 => kernel_rfl); (case ho_107 => (simp only [List.getElem?_toArray, List.getElem?_cons_zero, List.getElem?_cons_succ]; rfl)); (case h1_107 => kernel_rfl); (case hq_107 => exact fun _ _ _ h => h); (case hw_107 => rfl); (case hy_107 => (intro w' hSw; (try simp only [S] at hSw); go_simp; (try with_reducible rfl))); (case hs_107 => assumption); (try simp only [Act.put, List.setIfInBounds_toArray, List.set_cons_zero, List.set_cons_succ])
      refine wpAnyH_take (i := 17) (oi := ?oi_108) (v := ?v_108) ?ho_108 ?h1_108 ?h2_108 ?h3_108 ?hq_108 (Or.inl ⟨?hw_108, ?hy_108⟩) ?hs_108 ?rest_108; (case h2_108 => kernel_rfl); (case h3_108 => kernel_rfl); (case ho_108 => (simp only [List.getElem?_toArray, List.getElem?_cons_zero, List.getElem?_cons_succ]; rfl)); (case h1_108 => kernel_rfl); (case hq_108 => exact fun _ _ _ h => h); (case hw_108 => rfl); (case hy_108 => (intro w' hSw; (try simp only [S] at hSw); go_simp; (try with_reducible rfl))); (case hs_108 => assumption); (try simp only [Act.put, List.setIfInBounds_toArray, List.set_cons_zero, List.set_cons_succ])
      refine wpAnyH_take (i := 18) (oi := ?oi_109) (v := ?v_109) ?ho_109 ?h1_109 ?h2_109 ?h3_109 ?hq_109 (Or.inl ⟨?hw_109, ?hy_109⟩) ?hs_109 ?rest_109; (case h2_109 => kernel_rfl); (case h3_109 => kernel_rfl); (case ho_109 => (simp only [List.getElem?_toArray, List.getElem?_cons_zero, List.getElem?_cons_succ]; rfl)); (case h1_109 => kernel_rfl); (case hq_109 => exact fun _ _ _ h => h); (case hw_109 => rfl); (case hy_109 => (intro w' hSw; (try simp only [S] at hSw); go_simp; (try with_reducible rfl))); (case hs_109 => assumption); (try simp only [Act.put, List.setIfInBounds_toArray, List.set_cons_zero, List.set_cons_succ])
      refine wpAnyH_take (i := 20) (oi := ?oi_110) (v := ?v_110) ?ho_110 ?h1_110 ?h2_110 ?h3_110 ?hq_110 (Or.inl ⟨?hw_110, ?hy_110⟩) ?hs_110 ?rest_110; (case h2_110 => kernel_rfl); (case h3_110 => kernel_rfl); (case ho_110 => (simp only [List.getElem?_toArray, List.getElem?_cons_zero, List.getElem?_cons_succ]; rfl)); (case h1_110 => kernel_rfl); (case hq_110 => exact fun _ _ _ h => h); (case hw_110 => rfl); (case hy_110 => (intro w' hSw; (try simp only [S] at hSw); go_simp; (try with_reducible rfl))); (case hs_110 => assumption); (try simp only [Act.put, List.setIfInBounds_toArray, List.set_cons_zero, List.set_cons_succ])
      refine wpAnyH_take (i := 21) (oi := ?oi_111) (v := ?v_111) ?ho_111 ?h1_111 ?h2_111 ?h3_111 ?hq_111 (Or.inl ⟨?hw_111, ?hy_111⟩) ?hs_111 ?rest_111; (case h2_111 => kernel_rfl); (case h3_111 => kernel_rfl); (case ho_111 => (simp only [List.getElem?_toArray, List.getElem?_cons_zero, List.getElem?_cons_succ]; rfl)); (case h1_111 => kernel_rfl); (case hq_111 => exact fun _ _ _ h => h); (case hw_111 => rfl); (case hy_111 => (intro w' hSw; (try simp only [S] at hSw); go_simp; (try with_reducible rfl))); (case hs_111 => assumption); (try simp only [Act.put, List.setIfInBounds_toArray, List.set_cons_zero, List.set_cons_succ])
      refine wpAnyH_take (i := 22) (oi := ?oi_112) (v := ?v_112) ?ho_112 ?h1_112 ?h2_112 ?h3_112 ?hq_112 (Or.inl ⟨?hw_112, ?hy_112⟩) ?hs_112 ?rest_112; (case h2_112 => kernel_rfl); (case h3_112 => kernel_rfl); (case ho_112 => (simp only [List.getElem?_toArray, List.getElem?_cons_zero, List.getElem?_cons_succ]; rfl)); (case h1_112 => kernel_rfl); (case hq_112 => exact fun _ _ _ h => h); (case hw_112 => rfl); (case hy_112 => (intro w' hSw; (try simp only [S] at hSw); go_simp; (try with_reducible rfl))); (case hs_112 => assumption); (try simp only [Act.put, List.setIfInBounds_toArray, List.set_cons_zero, List.set_cons_succ])
      refine wpAnyH_take (i := 24) (oi := ?oi_113) (v := ?v_113) ?ho_113 ?h1_113 ?h2_113 ?h3_113 ?hq_113 (Or.inl ⟨?hw_113, ?hy_113⟩) ?hs_113 ?rest_113; (case h2_113 => kernel_rfl); (case h3_113 => kernel_rfl); (case ho_113 => (simp only [List.getElem?_toArray, List.getElem?_cons_zero, List.getElem?_cons_succ]; rfl)); (case h1_113 => kernel_rfl); (case hq_113 => exact fun _ _ _ h => h); (case hw_113 => rfl); (case hy_113 => (intro w' hSw; (try simp only [S] at hSw); go_simp; (try with_reducible rfl))); (case hs_113 => assumption); (try simp only [Act.put, List.setIfInBounds_toArray, List.set_cons_zero, List.set_cons_succ])
      refine wpAnyH_ready (rs := [4]) (by kernel_rfl) (by simp) (AllReadyH.cons (o := ?oo4_140) ?hoo4_140 (fun K hK => ?steponly140) AllReadyH.nil); (case hoo4_140 => (simp only [List.getElem?_toArray, List.getElem?_cons_zero, List.getElem?_cons_succ]; rfl))
      go_simp
      refine hK.out _ _ (hS1 _) (fun _ => ?_)
      clear hK K
      (try simp only [Act.put, List.setIfInBounds_toArray, List.set_cons_zero, List.set_cons_succ])
      refine wpAnyH_ready (rs := [5]) (by kernel_rfl) (by simp) (AllReadyH.cons (o := ?oo5_141) ?hoo5_141 (fun K hK => ?steponly141) AllReadyH.nil); (case hoo5_141 => (simp only [List.getElem?_toArray, List.getElem?_cons_zero, List.getElem?_cons_succ]; rfl))
      go_simp
      refine Calls.mono (hE _ _ ?_) ?_
      · exact heap_alloc_new wr _
      rintro e _ ⟨rfl, rfl⟩
      refine hK.out _ _ (hS1 _) (fun _ => ?_)
      clear hK K
      (try simp only [Act.put, List.setIfInBounds_toArray, List.set_cons_zero, List.set_cons_succ])
      refine wpAnyH_take (i := 6) (oi := ?oi_114) (v := ?v_114) ?ho_114 ?h1_114 ?h2_114 ?h3_114 ?hq_114 (Or.inl ⟨?hw_114, ?hy_114⟩) ?hs_114 ?rest_114; (case h2_114 => kernel_rfl); (case h3_114 => kernel_rfl); (case ho_114 => (simp only [List.getElem?_toArray, List.getElem?_cons_zero, List.getElem?_cons_succ]; rfl)); (case h1_114 => kernel_rfl); (case hq_114 => exact fun _ _ _ h => h); (case hw_114 => rfl); (case hy_114 => (intro w' hSw; (try simp only [S] at hSw); go_simp; (try with_reducible rfl))); (case hs_114 => assumption); (try simp only [Act.put, List.setIfInBounds_toArray, List.set_cons_zero, List.set_cons_succ])
      refine wpAnyH_take (i := 19) (oi := ?oi_115) (v := ?v_115) ?ho_115 ?h1_115 ?h2_115 ?h3_115 ?hq_115 (Or.inl ⟨?hw_115, ?hy_115⟩) ?hs_115 ?rest_115; (case h2_115 => kernel_rfl); (case h3_115 => kernel_rfl); (case ho_115 => (simp only [List.getElem?_toArray, List.getElem?_cons_zero, List.getElem?_cons_succ]; rfl)); (case h1_115 => kernel_rfl); (case hq_115 => exact fun _ _ _ h => h); (case hw_115 => rfl); (case hy_115 => (intro w' hSw; (try simp only [S] at hSw); go_simp; (try with_reducible rfl))); (case hs_115 => assumption); (try simp only [Act.put, List.setIfInBounds_toArray, List.set_cons_zero, List.set_cons_succ])
      refine wpAnyH_take (i := 23) (oi := ?oi_116) (v := ?v_116) ?ho_116 ?h1_116 ?h2_116 ?h3_116 ?hq_116 (Or.inl ⟨?hw_116, ?hy_116⟩) ?hs_116 ?rest_116; (case h2_116 => kernel_rfl); (case h3_116 => kernel_rfl); (case ho_116 => (simp only [List.getElem?_toArray, List.getElem?_cons_zero, List.getElem?_cons_succ]; rfl)); (case h1_116 => kernel_rfl); (case hq_116 => exact fun _ _ _ h => h); (case hw_116 => rfl); (case hy_116 => (intro w' hSw; (try simp only [S] at hSw); go_simp; (try with_reducible rfl))); (case hs_116 => assumption); (try simp only [Act.put, List.setIfInBounds_toArray, List.set_cons_zero, List.set_cons_succ])
      refine wpAnyH_take (i := 25) (oi := ?oi_117) (v := ?v_117) ?ho_117 ?h1_117 ?h2_117 ?h3_117 ?hq_117 (Or.inl ⟨?hw_117, ?hy_117⟩) ?hs_117 ?rest_117; (case h2_117 => kernel_rfl); (case h3_117 => kernel_rfl); (case ho_117 => (simp only [List.getElem?_toArray, List.getElem?_cons_zero, List.getElem?_cons_succ]; rfl)); (case h1_117 => kernel_rfl); (case hq_117 => exact fun _ _ _ h => h); (case hw_117 => rfl); (case hy_117 => (intro w' hSw; (try simp only [S] at hSw); go_simp; (try with_reducible rfl))); (case hs_117 => assumption); (try simp only [Act.put, List.setIfInBounds_toArray, List.set_cons_zero, List.set_cons_succ])
      refine wpAnyH_take (i := 26) (oi := ?oi_118) (v := ?v_118) ?ho_118 ?h1_118 ?h2_118 ?h3_118 ?hq_118 (Or.inl ⟨?hw_118, ?hy_118⟩) ?hs_118 ?rest_118; (case h2_118 => kernel_rfl); (case h3_118 => kernel_rfl); (case ho_118 => (simp only [List.getElem?_toArray, List.getElem?_cons_zero, List.getElem?_cons_succ]; rfl)); (case h1_118 => kernel_rfl); (case hq_118 => exact fun _ _ _ h => h); (case hw_118 => rfl); (case hy_118 => (intro w' hSw; (try simp only [S] at hSw); go_simp; (try with_reducible rfl))); (case hs_118 => assumption); (try simp only [Act.put, List.setIfInBounds_toArray, List.set_cons_zero, List.set_cons_succ])
      refine wpAnyH_done (by kernel_rfl) ?_ _
      simp only [hnot, w_not, w_add, w_and, w_xor]
      obtain ⟨x1, hx1⟩ : ∃ x, rx ⟨va, vb, vc, vd, ve, vf, vg, vh⟩ kk ww = x := ⟨_, rfl⟩
      rw [hx1] at HX
      have hx2 : vh + rE + ((ve &&& vf) ^^^ (~~~ve &&& vg)) + kk + ww = x1 := HX.out.symm
      rw [hx2]
      have hbV : Below wr.heap.size wr (World.drew (wr.alloc (.cells #[.int .i64 6, .int .i64 11, .int .i64 25] 3))) := ((Below.refl _ _).alloc (Nat.le_refl _) _).drew
      generalize World.drew (World.alloc wr _) = V at *
      clear hS0 hS1 c4 c5 c6 c7 kc HX hx2
      replace a2 := bBlk hbV (by omega) a2
      replace a4 := bBlk hbV (by omega) a4
      replace a5 := bBlk hbV (by omega) a5
      replace a6 := bBlk hbV (by omega) a6
      replace hB := hB.trans (hbV.mono (by omega))
      have hzV := hbV.size
      clear hbV c0 c1 c2 c3
      have c0 := blk_cell (k := 0) a6 rfl
      have c1 := blk_cell (k := 1) a6 rfl
      have c2 := blk_cell (k := 2) a6 rfl
      unfold wv at c0 c1 c2
      let S : World → Prop := fun w' => w'.cell? ⟨g6, 0, none⟩ = some (.int .u32 (va.toNat : Int)) ∧ w'.cell? ⟨g6, 1, none⟩ = some (.int .u32 (vb.toNat : Int)) ∧ w'.cell? ⟨g6, 2, none⟩ = some (.int .u32 (vc.toNat : Int))
      have hS0 : S V.drew := ⟨c0, c1, c2⟩
      have hS1 : ∀ o : Obj, S (V.drew.alloc o) := fun o => ⟨(World.cell?_alloc_lt _ _ _ (show g6 < V.heap.size by omega)).trans c0, (World.cell?_alloc_lt _ _ _ (show g6 < V.heap.size by omega)).trans c1, (World.cell?_alloc_lt _ _ _ (show g6 < V.heap.size by omega)).trans c2⟩
      go_upto_region 7 with (fail)
      refine wp_region_held (S := S) (by kernel_rfl) ?_
      change wpAnyH _ _ _ _ S _ _ _ V.drew
      refine wpAnyH_take (i := 0) (oi := ?oi_119) (v := ?v_119) ?ho_119 ?h1_119 ?h2_119 ?h3_119 ?hq_119 (Or.inl ⟨?hw_119, ?hy_119⟩) ?hs_119 ?rest_119; (case h2_119 => kernel_rfl); (case h3_119 => kernel_rfl); (case ho_119 => (simp only [List.getElem?_toArray, List.getElem?_cons_zero, List.getElem?_cons_succ]; rfl)); (case h1_119 => kernel_rfl); (case hq_119 => exact fun _ _ _ h => h); (case hw_119 => rfl); (case hy_119 => (intro w' hSw; (try simp only [S] at hSw); go_simp; (try with_reducible rfl))); (case hs_119 => assumption); (try simp only [Act.put, List.setIfInBounds_toArray, List.set_cons_zero, List.set_cons_succ])
      refine wpAnyH_take (i := 1) (oi := ?oi_120) (v := ?v_120) ?ho_120 ?h1_120 ?h2_120 ?h3_120 ?hq_120 (Or.inl ⟨?hw_120, ?hy_120⟩) ?hs_120 ?rest_120; (case h2_120 => kernel_rfl); (case h3_120 => kernel_rfl); (case ho_120 => (simp only [List.getElem?_toArray, List.getElem?_cons_zero, List.getElem?_cons_succ]; rfl)); (case h1_120 => kernel_rfl); (case hq_120 => exact fun _ _ _ h => h); (case hw_120 => rfl); (case hy_120 => (intro w' hSw; (try simp only [S] at hSw); go_simp; (try with_reducible rfl))); (case hs_120 => assumption); (try simp only [Act.put, List.setIfInBounds_toArray, List.set_cons_zero, List.set_cons_succ])
      refine wpAnyH_take (i := 4) (oi := ?oi_121) (v := ?v_121) ?ho_121 ?h1_121 ?h2_121 ?h3_121 ?hq_121 (Or.inl ⟨?hw_121, ?hy_121⟩) ?hs_121 ?rest_121; (case h2_121 => kernel_rfl); (case h3_121 => kernel_rfl); (case ho_121 => (simp only [List.getElem?_toArray, List.getElem?_cons_zero, List.getElem?_cons_succ]; rfl)); (case h1_121 => kernel_rfl); (case hq_121 => exact fun _ _ _ h => h); (case hw_121 => rfl); (case hy_121 => (intro w' hSw; (try simp only [S] at hSw); go_simp; (try with_reducible rfl))); (case hs_121 => assumption); (try simp only [Act.put, List.setIfInBounds_toArray, List.set_cons_zero, List.set_cons_succ])
      refine wpAnyH_take (i := 5) (oi := ?oi_122) (v := ?v_122) ?ho_122 ?h1_122 ?h2_122 ?h3_122 ?hq_122 (Or.inl ⟨?hw_122, ?hy_122⟩) ?hs_122 ?rest_122; (case h2_122 => kernel_rfl); (case h3_122 => kernel_rfl); (case ho_122 => (simp only [List.getElem?_toArray, List.getElem?_cons_zero, List.getElem?_cons_succ]; rfl)); (case h1_122 => kernel_rfl); (case hq_122 => exact fun _ _ _ h => h); (case hw_122 => rfl); (case hy_122 => (intro w' hSw; (try simp only [S] at hSw); go_simp; (try with_reducible rfl))); (case hs_122 => assumption); (try simp only [Act.put, List.setIfInBounds_toArray, List.set_cons_zero, List.set_cons_succ])
      refine wpAnyH_take (i := 6) (oi := ?oi_123) (v := ?v_123) ?ho_123 ?h1_123 ?h2_123 ?h3_123 ?hq_123 (Or.inl ⟨?hw_123, ?hy_123⟩) ?hs_123 ?rest_123; (case h2_123 => kernel_rfl); (case h3_123 => kernel_rfl); (case ho_123 => (simp only [List.getElem?_toArray, List.getElem?_cons_zero, List.getElem?_cons_succ]; rfl)); (case h1_123 => kernel_rfl); (case hq_123 => exact fun _ _ _ h => h); (case hw_123 => rfl); (case hy_123 => (intro w' hSw; (try simp only [S] at hSw); go_simp; (try with_reducible rfl))); (case hs_123 => assumption); (try simp only [Act.put, List.setIfInBounds_toArray, List.set_cons_zero, List.set_cons_succ])
      refine wpAnyH_take (i := 7) (oi := ?oi_124) (v := ?v_124) ?ho_124 ?h1_124 ?h2_124 ?h3_124 ?hq_124 (Or.inl ⟨?hw_124, ?hy_124⟩) ?hs_124 ?rest_124; (case h2_124 => kernel_rfl); (case h3_124 => kernel_rfl); (case ho_124 => (simp only [List.getElem?_toArray, List.getElem?_cons_zero, List.getElem?_cons_succ]; rfl)); (case h1_124 => kernel_rfl); (case hq_124 => exact fun _ _ _ h => h); (case hw_124 => rfl); (case hy_124 => (intro w' hSw; (try simp only [S] at hSw); go_simp; (try with_reducible rfl))); (case hs_124 => assumption); (try simp only [Act.put, List.setIfInBounds_toArray, List.set_cons_zero, List.set_cons_succ])
      refine wpAnyH_take (i := 8) (oi := ?oi_125) (v := ?v_125) ?ho_125 ?h1_125 ?h2_125 ?h3_125 ?hq_125 (Or.inl ⟨?hw_125, ?hy_125⟩) ?hs_125 ?rest_125; (case h2_125 => kernel_rfl); (case h3_125 => kernel_rfl); (case ho_125 => (simp only [List.getElem?_toArray, List.getElem?_cons_zero, List.getElem?_cons_succ]; rfl)); (case h1_125 => kernel_rfl); (case hq_125 => exact fun _ _ _ h => h); (case hw_125 => rfl); (case hy_125 => (intro w' hSw; (try simp only [S] at hSw); go_simp; (try with_reducible rfl))); (case hs_125 => assumption); (try simp only [Act.put, List.setIfInBounds_toArray, List.set_cons_zero, List.set_cons_succ])
      refine wpAnyH_take (i := 9) (oi := ?oi_126) (v := ?v_126) ?ho_126 ?h1_126 ?h2_126 ?h3_126 ?hq_126 (Or.inl ⟨?hw_126, ?hy_126⟩) ?hs_126 ?rest_126; (case h2_126 => kernel_rfl); (case h3_126 => kernel_rfl); (case ho_126 => (simp only [List.getElem?_toArray, List.getElem?_cons_zero, List.getElem?_cons_succ]; rfl)); (case h1_126 => kernel_rfl); (case hq_126 => exact fun _ _ _ h => h); (case hw_126 => rfl); (case hy_126 => (intro w' hSw; (try simp only [S] at hSw); go_simp; (try with_reducible rfl))); (case hs_126 => assumption); (try simp only [Act.put, List.setIfInBounds_toArray, List.set_cons_zero, List.set_cons_succ])
      refine wpAnyH_take (i := 10) (oi := ?oi_127) (v := ?v_127) ?ho_127 ?h1_127 ?h2_127 ?h3_127 ?hq_127 (Or.inl ⟨?hw_127, ?hy_127⟩) ?hs_127 ?rest_127; (case h2_127 => kernel_rfl); (case h3_127 => kernel_rfl); (case ho_127 => (simp only [List.getElem?_toArray, List.getElem?_cons_zero, List.getElem?_cons_succ]; rfl)); (case h1_127 => kernel_rfl); (case hq_127 => exact fun _ _ _ h => h); (case hw_127 => rfl); (case hy_127 => (intro w' hSw; (try simp only [S] at hSw); go_simp; (try with_reducible rfl))); (case hs_127 => assumption); (try simp only [Act.put, List.setIfInBounds_toArray, List.set_cons_zero, List.set_cons_succ])
      refine wpAnyH_take (i := 11) (oi := ?oi_128) (v := ?v_128) ?ho_128 ?h1_128 ?h2_128 ?h3_128 ?hq_128 (Or.inl ⟨?hw_128, ?hy_128⟩) ?hs_128 ?rest_128; (case h2_128 => kernel_rfl); (case h3_128 => kernel_rfl); (case ho_128 => (simp only [List.getElem?_toArray, List.getElem?_cons_zero, List.getElem?_cons_succ]; rfl)); (case h1_128 => kernel_rfl); (case hq_128 => exact fun _ _ _ h => h); (case hw_128 => rfl); (case hy_128 => (intro w' hSw; (try simp only [S] at hSw); go_simp; (try with_reducible rfl))); (case hs_128 => assumption); (try simp only [Act.put, List.setIfInBounds_toArray, List.set_cons_zero, List.set_cons_succ])
      refine wpAnyH_take (i := 12) (oi := ?oi_129) (v := ?v_129) ?ho_129 ?h1_129 ?h2_129 ?h3_129 ?hq_129 (Or.inl ⟨?hw_129, ?hy_129⟩) ?hs_129 ?rest_129; (case h2_129 => kernel_rfl); (case h3_129 => kernel_rfl); (case ho_129 => (simp only [List.getElem?_toArray, List.getElem?_cons_zero, List.getElem?_cons_succ]; rfl)); (case h1_129 => kernel_rfl); (case hq_129 => exact fun _ _ _ h => h); (case hw_129 => rfl); (case hy_129 => (intro w' hSw; (try simp only [S] at hSw); go_simp; (try with_reducible rfl))); (case hs_129 => assumption); (try simp only [Act.put, List.setIfInBounds_toArray, List.set_cons_zero, List.set_cons_succ])
      refine wpAnyH_take (i := 13) (oi := ?oi_130) (v := ?v_130) ?ho_130 ?h1_130 ?h2_130 ?h3_130 ?hq_130 (Or.inl ⟨?hw_130, ?hy_130⟩) ?hs_130 ?rest_130; (case h2_130 => kernel_rfl); (case h3_130 => kernel_rfl); (case ho_130 => (simp only [List.getElem?_toArray, List.getElem?_cons_zero, List.getElem?_cons_succ]; rfl)); (case h1_130 => kernel_rfl); (case hq_130 => exact fun _ _ _ h => h); (case hw_130 => rfl); (case hy_130 => (intro w' hSw; (try simp only [S] at hSw); go_simp; (try with_reducible rfl))); (case hs_130 => assumption); (try simp only [Act.put, List.setIfInBounds_toArray, List.set_cons_zero, List.set_cons_succ])
      refine wpAnyH_take (i := 14) (oi := ?oi_131) (v := ?v_131) ?ho_131 ?h1_131 ?h2_131 ?h3_131 ?hq_131 (Or.inl ⟨?hw_131, ?hy_131⟩) ?hs_131 ?rest_131; (case h2_131 => kernel_rfl); (case h3_131 => kernel_rfl); (case ho_131 => (simp only [List.getElem?_toArray, List.getElem?_cons_zero, List.getElem?_cons_succ]; rfl)); (case h1_131 => kernel_rfl); (case hq_131 => exact fun _ _ _ h => h); (case hw_131 => rfl); (case hy_131 => (intro w' hSw; (try simp only [S] at hSw); go_simp; (try with_reducible rfl))); (case hs_131 => assumption); (try simp only [Act.put, List.setIfInBounds_toArray, List.set_cons_zero, List.set_cons_succ])
      refine wpAnyH_take (i := 15) (oi := ?oi_132) (v := ?v_132) ?ho_132 ?h1_132 ?h2_132 ?h3_132 ?hq_132 (Or.inl ⟨?hw_132, ?hy_132⟩) ?hs_132 ?rest_132; (case h2_132 => kernel_rfl); (case h3_132 => kernel_rfl); (case ho_132 => (simp only [List.getElem?_toArray, List.getElem?_cons_zero, List.getElem?_cons_succ]; rfl)); (case h1_132 => kernel_rfl); (case hq_132 => exact fun _ _ _ h => h); (case hw_132 => rfl); (case hy_132 => (intro w' hSw; (try simp only [S] at hSw); go_simp; (try with_reducible rfl))); (case hs_132 => assumption); (try simp only [Act.put, List.setIfInBounds_toArray, List.set_cons_zero, List.set_cons_succ])
      refine wpAnyH_take (i := 16) (oi := ?oi_133) (v := ?v_133) ?ho_133 ?h1_133 ?h2_133 ?h3_133 ?hq_133 (Or.inl ⟨?hw_133, ?hy_133⟩) ?hs_133 ?rest_133; (case h2_133 => kernel_rfl); (case h3_133 => kernel_rfl); (case ho_133 => (simp only [List.getElem?_toArray, List.getElem?_cons_zero, List.getElem?_cons_succ]; rfl)); (case h1_133 => kernel_rfl); (case hq_133 => exact fun _ _ _ h => h); (case hw_133 => rfl); (case hy_133 => (intro w' hSw; (try simp only [S] at hSw); go_simp; (try with_reducible rfl))); (case hs_133 => assumption); (try simp only [Act.put, List.setIfInBounds_toArray, List.set_cons_zero, List.set_cons_succ])
      refine wpAnyH_take (i := 17) (oi := ?oi_134) (v := ?v_134) ?ho_134 ?h1_134 ?h2_134 ?h3_134 ?hq_134 (Or.inl ⟨?hw_134, ?hy_134⟩) ?hs_134 ?rest_134; (case h2_134 => kernel_rfl); (case h3_134 => kernel_rfl); (case ho_134 => (simp only [List.getElem?_toArray, List.getElem?_cons_zero, List.getElem?_cons_succ]; rfl)); (case h1_134 => kernel_rfl); (case hq_134 => exact fun _ _ _ h => h); (case hw_134 => rfl); (case hy_134 => (intro w' hSw; (try simp only [S] at hSw); go_simp; (try with_reducible rfl))); (case hs_134 => assumption); (try simp only [Act.put, List.setIfInBounds_toArray, List.set_cons_zero, List.set_cons_succ])
      refine wpAnyH_take (i := 18) (oi := ?oi_135) (v := ?v_135) ?ho_135 ?h1_135 ?h2_135 ?h3_135 ?hq_135 (Or.inl ⟨?hw_135, ?hy_135⟩) ?hs_135 ?rest_135; (case h2_135 => kernel_rfl); (case h3_135 => kernel_rfl); (case ho_135 => (simp only [List.getElem?_toArray, List.getElem?_cons_zero, List.getElem?_cons_succ]; rfl)); (case h1_135 => kernel_rfl); (case hq_135 => exact fun _ _ _ h => h); (case hw_135 => rfl); (case hy_135 => (intro w' hSw; (try simp only [S] at hSw); go_simp; (try with_reducible rfl))); (case hs_135 => assumption); (try simp only [Act.put, List.setIfInBounds_toArray, List.set_cons_zero, List.set_cons_succ])
      refine wpAnyH_take (i := 19) (oi := ?oi_136) (v := ?v_136) ?ho_136 ?h1_136 ?h2_136 ?h3_136 ?hq_136 (Or.inl ⟨?hw_136, ?hy_136⟩) ?hs_136 ?rest_136; (case h2_136 => kernel_rfl); (case h3_136 => kernel_rfl); (case ho_136 => (simp only [List.getElem?_toArray, List.getElem?_cons_zero, List.getElem?_cons_succ]; rfl)); (case h1_136 => kernel_rfl); (case hq_136 => exact fun _ _ _ h => h); (case hw_136 => rfl); (case hy_136 => (intro w' hSw; (try simp only [S] at hSw); go_simp; (try with_reducible rfl))); (case hs_136 => assumption); (try simp only [Act.put, List.setIfInBounds_toArray, List.set_cons_zero, List.set_cons_succ])
      refine wpAnyH_take (i := 20) (oi := ?oi_137) (v := ?v_137) ?ho_137 ?h1_137 ?h2_137 ?h3_137 ?hq_137 (Or.inl ⟨?hw_137, ?hy_137⟩) ?hs_137 ?rest_137; (case h2_137 => kernel_rfl); (case h3_137 => kernel_rfl); (case ho_137 => (simp only [List.getElem?_toArray, List.getElem?_cons_zero, List.getElem?_cons_succ]; rfl)); (case h1_137 => kernel_rfl); (case hq_137 => exact fun _ _ _ h => h); (case hw_137 => rfl); (case hy_137 => (intro w' hSw; (try simp only [S] at hSw); go_simp; (try with_reducible rfl))); (case hs_137 => assumption); (try simp only [Act.put, List.setIfInBounds_toArray, List.set_cons_zero, List.set_cons_succ])
      refine wpAnyH_ready (rs := [2]) (by kernel_rfl) (by simp) (AllReadyH.cons (o := ?oo2_142) ?hoo2_142 (fun K hK => ?steponly142) AllReadyH.nil); (case hoo2_142 => (simp only [List.getElem?_toArray, List.getElem?_cons_zero, List.getElem?_cons_succ]; rfl))
      go_simp
      refine hK.out _ _ (hS1 _) (fun _ => ?_)
      clear hK K
      (try simp only [Act.put, List.setIfInBounds_toArray, List.set_cons_zero, List.set_cons_succ])
      refine wpAnyH_ready (rs := [3]) (by kernel_rfl) (by simp) (AllReadyH.cons (o := ?oo3_143) ?hoo3_143 (fun K hK => ?steponly143) AllReadyH.nil); (case hoo3_143 => (simp only [List.getElem?_toArray, List.getElem?_cons_zero, List.getElem?_cons_succ]; rfl))
      go_simp
      refine Calls.mono (hA _ _ ?_) ?_
      · exact heap_alloc_new V _
      rintro e _ ⟨rfl, rfl⟩
      refine hK.out _ _ (hS1 _) (fun _ => ?_)
      clear hK K
      (try simp only [Act.put, List.setIfInBounds_toArray, List.set_cons_zero, List.set_cons_succ])
      refine wpAnyH_take (i := 21) (oi := ?oi_138) (v := ?v_138) ?ho_138 ?h1_138 ?h2_138 ?h3_138 ?hq_138 (Or.inl ⟨?hw_138, ?hy_138⟩) ?hs_138 ?rest_138; (case h2_138 => kernel_rfl); (case h3_138 => kernel_rfl); (case ho_138 => (simp only [List.getElem?_toArray, List.getElem?_cons_zero, List.getElem?_cons_succ]; rfl)); (case h1_138 => kernel_rfl); (case hq_138 => exact fun _ _ _ h => h); (case hw_138 => rfl); (case hy_138 => (intro w' hSw; (try simp only [S] at hSw); go_simp; (try with_reducible rfl))); (case hs_138 => assumption); (try simp only [Act.put, List.setIfInBounds_toArray, List.set_cons_zero, List.set_cons_succ])
      refine wpAnyH_take (i := 22) (oi := ?oi_139) (v := ?v_139) ?ho_139 ?h1_139 ?h2_139 ?h3_139 ?hq_139 (Or.inl ⟨?hw_139, ?hy_139⟩) ?hs_139 ?rest_139; (case h2_139 => kernel_rfl); (case h3_139 => kernel_rfl); (case ho_139 => (simp only [List.getElem?_toArray, List.getElem?_cons_zero, List.getElem?_cons_succ]; rfl)); (case h1_139 => kernel_rfl); (case hq_139 => exact fun _ _ _ h => h); (case hw_139 => rfl); (case hy_139 => (intro w' hSw; (try simp only [S] at hSw); go_simp; (try with_reducible rfl))); (case hs_139 => assumption); (try simp only [Act.put, List.setIfInBounds_toArray, List.set_cons_zero, List.set_cons_succ])
      refine wpAnyH_done (by kernel_rfl) ?_ _
      simp only [w_add, w_and, w_xor]
      obtain ⟨y1, hy1⟩ : ∃ x, ry ⟨va, vb, vc, vd, ve, vf, vg, vh⟩ = x := ⟨_, rfl⟩
      rw [hy1] at HY
      have hy2 : rA + ((va &&& vb) ^^^ (va &&& vc) ^^^ (vb &&& vc)) = y1 := HY.out.symm
      rw [hy2]
      have hbU : Below V.heap.size V (World.drew (V.alloc (.cells #[.int .i64 2, .int .i64 13, .int .i64 22] 3))) := ((Below.refl _ _).alloc (Nat.le_refl _) _).drew
      generalize World.drew (World.alloc V _) = U at *
      clear hS0 hS1 c0 c1 c2 HY hy2
      replace a2 := bBlk hbU (by omega) a2
      replace a4 := bBlk hbU (by omega) a4
      replace a5 := bBlk hbU (by omega) a5
      replace a6 := bBlk hbU (by omega) a6
      replace hB := hB.trans (hbU.mono (by omega))
      have hzU := hbU.size
      clear hbU
      have d0 : U.cell? ⟨g6, 0, none⟩ = some (.int .u32 (va.toNat : Int)) := blk_cell a6 rfl
      have d1 : U.cell? ⟨g6, 1, none⟩ = some (.int .u32 (vb.toNat : Int)) := blk_cell a6 rfl
      have d2 : U.cell? ⟨g6, 2, none⟩ = some (.int .u32 (vc.toNat : Int)) := blk_cell a6 rfl
      have d3 : U.cell? ⟨g6, 3, none⟩ = some (.int .u32 (vd.toNat : Int)) := blk_cell a6 rfl
      have d4 : U.cell? ⟨g6, 4, none⟩ = some (.int .u32 (ve.toNat : Int)) := blk_cell a6 rfl
      have d5 : U.cell? ⟨g6, 5, none⟩ = some (.int .u32 (vf.toNat : Int)) := blk_cell a6 rfl
      have d6 : U.cell? ⟨g6, 6, none⟩ = some (.int .u32 (vg.toNat : Int)) := blk_cell a6 rfl
      have m1 := m_add x1 y1
      have m2 := m_add vd x1
      have hrd : rnd ⟨va, vb, vc, vd, ve, vf, vg, vh⟩ kk ww = ⟨x1 + y1, va, vb, vc, vd + x1, ve, vf, vg⟩ := by unfold rnd; rw [hx1, hy1]
      rw [hrd] at HR
      clear hx1 hy1 hrd
      obtain ⟨n0, hn0⟩ : ∃ x, x1 + y1 = x := ⟨_, rfl⟩
      obtain ⟨n4, hn4⟩ : ∃ x, vd + x1 = x := ⟨_, rfl⟩
      rw [hn0] at HR m1
      rw [hn4] at HR m2
      clear hn0 hn4
      have hnl : (St.list ⟨n0, va, vb, vc, n4, ve, vf, vg⟩).length = 8 := rfl
      obtain ⟨OV, hOV⟩ : ∃ l, (⟨va, vb, vc, vd, ve, vf, vg, vh⟩ : St).list = l := ⟨_, rfl⟩
      have hol : OV.length = 8 := by rw [← hOV]; rfl
      rw [hOV] at a6
      clear hOV
      go_upto_region 9 with (first
        | (refine wpList_store_row rfl 144 (.tmp 6) (.tmp 87) rfl _ (wvs (St.list ⟨n0, va, vb, vc, n4, ve, vf, vg⟩)).toArray rfl rfl _ (wvs OV).toArray a6 (w8_info hnl) (ws_sizes hol hnl) (all_oneCell_toArray (oneCell_wvs _)) ?_)
        | fail)
      generalize hXX : World.setRow _ _ _ = XX
      have b6 : XX.heap[g6]? = some (.cells (wvs (St.list ⟨n0, va, vb, vc, n4, ve, vf, vg⟩)).toArray 144) := by rw [← hXX]; exact setRow_heap _ _ _ _ _ _ a6
      have b2 : XX.heap[w.heap.size]? = some (.cells (wvs M).toArray 144) := by rw [← hXX]; exact (setRow_other _ _ _ _ hd.1).trans a2
      have b4 : XX.heap[w.heap.size + 1]? = some (.cells (wvs z8).toArray 144) := by rw [← hXX]; exact (setRow_other _ _ _ _ hd.2.1).trans a4
      have b5 : XX.heap[g5]? = some (.cells (wvs KT).toArray 153) := by rw [← hXX]; exact (setRow_other _ _ _ _ hd.2.2.1).trans a5
      have hBX : Below w.heap.size w XX := by rw [← hXX]; exact bSetRow hB hd.2.2.2 _
      clear hXX
      go_wp2_with fail
      go_roundw
      case rel => exact ⟨t + 1, by go_num, by omega, b2, b4, b5, by rw [HR.out]; exact b6, hBX⟩
      case measure => simp [intOf]; omega
    · obtain rfl : t = 64 := by omega
      have g1 : ¬ ((64 : Nat) : Int) < 64 := by omega
      have HC2 : Hid (RV = addTo (rnds s WS 64).list M 8) := Lib.hid (by rw [HC.out, plus_list, hM])
      have hvl : (rnds s WS 64).list.length = 8 := St.list_len _
      clear HC
      generalize (rnds s WS 64).list = V at *
      have a6' : wr.heap[g6]? = some (.cells (wvs (addTo V M 0)).toArray 144) := a6
      clear a6 a5
      go_wp2_with fail
      rename World => Wo
      go_loopw [89] (fun i wr => ∃ t : Nat, i = .int .i64 t ∧ t ≤ 8 ∧ wr.heap[w.heap.size]? = some (.cells (wvs M).toArray 144) ∧ wr.heap[w.heap.size + 1]? = some (.cells (wvs z8).toArray 144) ∧ wr.heap[g6]? = some (.cells (wvs (addTo V M t)).toArray 144) ∧ Below w.heap.size w wr) (fun i _ => 8 - (intOf i).toNat)
      case atStart => exact ⟨0, rfl, by omega, a2, a4, a6', hB⟩
      case round =>
        clear a2 a4 a6' hB
        obtain ⟨t, rfl, ht, a2, a4, a6, hB⟩ := hrel
        by_cases hlt : t < 8
        · have g1 : (t : Int) < 8 := by omega
          obtain ⟨x, hx⟩ : ∃ x, V[t]? = some x := ⟨_, List.getElem?_eq_getElem (by omega)⟩
          obtain ⟨y, hy⟩ : ∃ y, M[t]? = some y := ⟨_, List.getElem?_eq_getElem (by omega)⟩
          have c1 := blk_cell a6 (wvs_at ((addTo_at V M (Nat.le_refl t)).trans hx))
          have c2 := blk_cell a2 (wvs_at hy)
          have f1 := blk_frozen a6 t
          have HS : Hid (addTo V M (t + 1) = (addTo V M t).set t (x + y)) := Lib.hid (by rw [addTo]; unfold wAt; rw [hx, hy]; rfl)
          have m1 := m_add x y
          clear hx hy
          go_wp2_with fail
          go_still_tail 8, (by kernel_rfl)
          change wpList _ _ _ _ _ (World.drew _)
          go_wp2
          generalize hX : World.drew (World.setCell _ _ _) = X
          have b6 : X.heap[g6]? = some (.cells (wvs (addTo V M (t + 1))).toArray 144) := by rw [← hX, HS.out, ← wvs_set]; exact blk_set a6 t _
          have b2 : X.heap[w.heap.size]? = some (.cells (wvs M).toArray 144) := by rw [← hX]; exact blk_far (W := wr) a2 _ hd.1
          have b4 : X.heap[w.heap.size + 1]? = some (.cells (wvs z8).toArray 144) := by rw [← hX]; exact blk_far (W := wr) a4 _ hd.2.1
          have hBX : Below w.heap.size w X := by rw [← hX]; exact Below.drew (Below.setCell hB (p := ⟨g6, t, none⟩) hd.2.2.2 _)
          clear hX
          go_wp2_with fail
          go_roundw
          case rel => exact ⟨t + 1, by go_num, by omega, b2, b4, b6, hBX⟩
          case measure => simp [intOf]; omega
        · obtain rfl : t = 8 := by omega
          have hrl : RV.length = 8 := by rw [HC2.out, addTo_len, hvl]
          rw [← HC2.out] at a6
          clear HC2
          go_wp2_with (first
            | (refine wpList_load_row rfl 144 (.tmp 6) rfl _ rfl _ (wvs RV).toArray (0, 0) _ a6 Try.underlying144 rfl (w8_info hrl) ?_)
            | (refine wpList_store_row rfl 144 (.tmp 4) (.tmp 101) rfl _ (wvs RV).toArray rfl rfl _ (wvs z8).toArray a4 (w8_info hrl) (ws_sizes hz8 hrl) (all_oneCell_toArray (oneCell_wvs _)) ?_)
            | fail)
          generalize hX : World.setRow _ _ _ = X
          have b4 : X.heap[w.heap.size + 1]? = some (.cells (wvs RV).toArray 144) := by rw [← hX]; exact setRow_heap _ _ _ _ _ _ a4
          have hBX : Below w.heap.size w X := by rw [← hX]; exact bSetRow hB (Nat.le_succ _) _
          clear hX
          have hld := run_loadVar_row (P := Try.prog) X _ _ 144 _ _ _ b4 Try.underlying144 rfl (w8_info hrl)
          refine bodyPost_ret (by simp [results, Try.results89, Act.put, asAddr, Result.andThen, hld]; try rfl) rfl ?_
          exact Ret.mk (by rw [hRV]) hBX
end Go.Proofs.Ytnkdbkgihemjnaa
