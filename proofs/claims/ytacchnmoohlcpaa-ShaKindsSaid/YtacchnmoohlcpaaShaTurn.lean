/- The walk over sha.turn. -/
import Derived.Test.YtacchnmoohlcpaaShaSch
namespace Go.Proofs.Ytacchnmoohlcpaa
set_option linter.unusedSimpArgs false
set_option linter.unusedVariables false
open Go.RowKit

theorem St.list_len (s : St) : s.list.length = 8 := rfl
def St.vals (s : St) : Array Value := #[wv s.a, wv s.b, wv s.c, wv s.d, wv s.e, wv s.f, wv s.g, wv s.h]
theorem St.vals_eq (s : St) : (wvs s.list).toArray = s.vals := rfl
theorem built8 (a b c d e f g h : W32) : Try.prog.built 80 [(0, wv a), (1, wv b), (2, wv c), (3, wv d), (4, wv e), (5, wv f), (6, wv g), (7, wv h)] = some (St.vals ⟨a, b, c, d, e, f, g, h⟩) := by
  unfold wv St.vals wv
  kernel_rfl
def addTo (V M : List W32) : Nat → List W32
  | 0 => V
  | i + 1 => (addTo V M i).set i (wAt V i + wAt M i)
theorem addTo_len (V M : List W32) (i : Nat) : (addTo V M i).length = V.length := by
  induction i with
  | zero => rfl
  | succ i ih => rw [addTo, List.length_set, ih]
theorem addTo_at (V M : List W32) {i j : Nat} (h : i ≤ j) : (addTo V M i)[j]? = V[j]? := by
  induction i with
  | zero => rfl
  | succ i ih => rw [addTo, List.getElem?_set_ne (by omega), ih (by omega)]
theorem plus_list (s v : St) : (plus s v).list = addTo v.list s.list 8 := rfl
theorem hnot : (if IntKind.u32.signed = true then -1 else IntKind.u32.max) = 4294967295 := by decide
theorem u32_sizeOf (w : World) : (sizeOf 79).run Try.prog w = .ok 1 w := by
  have h : (Try.prog.info? 79).map (·.size) = some 1 := by kernel_rfl
  cases hq : Try.prog.info? 79 with
  | none => rw [hq] at h; cases h
  | some i =>
    rw [hq] at h
    have hs : i.size = 1 := by simpa using h
    simp [sizeOf, typeInfo, hq, hs]
theorem run_index_w {t : TypeId} {n : Nat} (hu : Try.prog.underlying t = some (.array n 79)) {l : List W32} {k : Nat} {x : W32} (hk : k < n) (h : l[k]? = some x) (W : World) :
    (Instr.index t (.agg (wvs l).toArray) (.int .i64 k)).run Try.prog W = .ok (.int .u32 ((x.toNat : Nat) : Int)) W := by
  have h1 : (part 79 (wvs l).toArray k).run Try.prog W = .ok (.int .u32 ((x.toNat : Nat) : Int)) W := run_part_plain W (e := 79) (by kernel_rfl) (wvs_at h)
  have h2 : (0 : Int) ≤ (k : Int) ∧ (k : Int) < (n : Int) := by omega
  have h3 := u32_sizeOf W
  simp [Instr.index, run_underlying hu, asIntOf, h2.1, h2.2, h3, h1]
  intro hh; omega
set_option maxHeartbeats 4000000 in
set_option maxRecDepth 100000 in
theorem turn_any (s : St) {p : List UInt8} (hp : p.length = 64) {B c : Nat} {A : Option Addr} (hc : 64 ≤ c) (hcm : c ≤ maxLen) (w : World) (hB0 : B ≤ w.heap.size) (hs : Sl w B 1 A 64 (bvs p)) :
    Calls Try.prog 47 #[wsv s.list, .slice A 64 c] w (Ret w (wsv (comp s p).list)) := by
  have hk := fun W => consts_any W
  have hsc := fun W (h1 : B ≤ W.heap.size) (h : Sl W B 1 A 64 (bvs p)) => schedule_any hp hc hcm W h1 h
  have hkl := kTab_len
  have hsl := St.list_len s
  have hz8 : z8.length = 8 := rfl
  have hrun := fun W => run_zero w8Z W
  unfold wsv at *
  go_enter Try.func47, Try.ntmps47
  obtain ⟨M, hM⟩ : ∃ M, s.list = M := ⟨_, rfl⟩
  rw [hM] at hsl ⊢
  go_wp2_with (first
    | (refine wpList_new rfl w8Z rfl ?_)
    | (refine wpList_new rfl w64Z rfl ?_)
    | fail)
  have a2 : ((w.alloc (.cells (wvs M).toArray 80)).alloc (.cells (wvs z8).toArray 80)).heap[w.heap.size]? = some (.cells (wvs M).toArray 80) := heap_alloc_fst _ _ _
  have a4 : ((w.alloc (.cells (wvs M).toArray 80)).alloc (.cells (wvs z8).toArray 80)).heap[w.heap.size + 1]? = some (.cells (wvs z8).toArray 80) := heap_alloc_two _ _ _
  have hB0' : Below w.heap.size w ((w.alloc (.cells (wvs M).toArray 80)).alloc (.cells (wvs z8).toArray 80)) := ((Below.refl _ _).alloc (Nat.le_refl _) _).alloc (by simp) _
  generalize World.alloc (World.alloc w _) _ = W0 at *
  refine (hk _).mono ?_
  rintro e W1 ⟨rfl, hb1⟩
  have hz0 : w.heap.size + 1 < W0.heap.size := (Array.getElem?_eq_some_iff.1 a4).1
  have hz1 := hb1.size
  replace a2 := bBlk hb1 (by omega) a2
  replace a4 := bBlk hb1 (by omega) a4
  have hB1 := hB0'.trans (hb1.mono (by omega))
  clear hB0' hb1 hk
  obtain ⟨KT, hKT⟩ : ∃ l, kTab = l := ⟨_, rfl⟩
  rw [hKT] at hkl ⊢
  go_upto_region 2 with (first
    | (refine wpList_new rfl w64Z rfl ?_)
    | (refine wpList_store_row rfl 100 (.tmp 5) (.tmp 12) rfl _ (wvs KT).toArray rfl rfl _ (wvs z64).toArray (heap_alloc_new _ _) (w64_info hkl) (ws_sizes rfl hkl) (all_oneCell_toArray (oneCell_wvs _)) ?_)
    | fail)
  generalize hX : World.setRow _ _ _ = X
  have a5 : X.heap[W1.heap.size]? = some (.cells (wvs KT).toArray 100) := by rw [← hX]; exact setRow_heap _ _ _ _ _ _ (heap_alloc_new _ _)
  have hbX : Below W1.heap.size W1 X := by rw [← hX]; exact bSetRow ((Below.refl _ _).alloc (Nat.le_refl _) _) (Nat.le_refl _) _
  replace a2 := bBlk hbX (by omega) a2
  replace a4 := bBlk hbX (by omega) a4
  have hBX := hB1.trans (hbX.mono (by omega))
  have hz2 : W1.heap.size < X.heap.size := (Array.getElem?_eq_some_iff.1 a5).1
  clear hX hbX hB1
  go_upto_region 3 with (first
    | (refine wpList_new rfl w8Z rfl ?_)
    | (refine wpList_load_row rfl 80 (.tmp 2) rfl _ rfl _ (wvs M).toArray (0, 0) _ a2 Try.underlying80 rfl (w8_info hsl) ?_)
    | (refine wpList_store_row rfl 80 (.tmp 6) (.tmp 13) rfl _ (wvs M).toArray rfl rfl _ (wvs z8).toArray (heap_alloc_new _ _) (w8_info hsl) (ws_sizes hz8 hsl) (all_oneCell_toArray (oneCell_wvs _)) ?_)
    | fail)
  generalize hY : World.setRow _ _ _ = Y
  have a6 : Y.heap[X.heap.size]? = some (.cells (wvs M).toArray 80) := by rw [← hY]; exact setRow_heap _ _ _ _ _ _ (heap_alloc_new _ _)
  have hbY : Below X.heap.size X Y := by rw [← hY]; exact bSetRow ((Below.refl _ _).alloc (Nat.le_refl _) _) (Nat.le_refl _) _
  replace a2 := bBlk hbY (by omega) a2
  replace a4 := bBlk hbY (by omega) a4
  replace a5 := bBlk hbY (by omega) a5
  have hBY := hBX.trans (hbY.mono (by omega))
  have hz3 : X.heap.size < Y.heap.size := (Array.getElem?_eq_some_iff.1 a6).1
  clear hY hbY hBX
  have hscY := hsc Y (by omega) (hs.below (hBY.mono hB0))
  go_wp2_with fail
  refine hscY.mono ?_
  rintro e Z ⟨rfl, hb2⟩
  replace a2 := bBlk hb2 (by omega) a2
  replace a4 := bBlk hb2 (by omega) a4
  replace a5 := bBlk hb2 (by omega) a5
  replace a6 := bBlk hb2 (by omega) a6
  have hBZ := hBY.trans (hb2.mono (by omega))
  have hz4 := hb2.size
  clear hscY hsc hb2 hBY hs
  have hwl := sch_len p 64
  have HC : Hid ((comp s p).list = (plus s (rnds s (sch p 64) 64)).list) := Lib.hid rfl
  obtain ⟨WS, hWS⟩ : ∃ l, sch p 64 = l := ⟨_, rfl⟩
  rw [hWS] at hwl HC ⊢
  obtain ⟨RV, hRV⟩ : ∃ v, (comp s p).list = v := ⟨_, rfl⟩
  rw [hRV] at HC ⊢
  clear hWS hp hcm hc hB0
  have a6' : Z.heap[X.heap.size]? = some (.cells (wvs (rnds s WS 0).list).toArray 80) := by show _ = some (Obj.cells (wvs s.list).toArray _ (0, 0)); rw [hM]; exact a6
  have hd : w.heap.size ≠ X.heap.size ∧ w.heap.size + 1 ≠ X.heap.size ∧ W1.heap.size ≠ X.heap.size ∧ w.heap.size ≤ X.heap.size := by omega
  obtain ⟨g6, hg6⟩ : ∃ g, X.heap.size = g := ⟨_, rfl⟩
  obtain ⟨g5, hg5⟩ : ∃ g, W1.heap.size = g := ⟨_, rfl⟩
  rw [hg6] at a6' hd ⊢
  rw [hg5] at a5 hd ⊢
  clear a6 hz0 hz1 hz2 hz3 hz4 hg6 hg5
  go_wp2_with fail
  go_loopw [16] (fun i wr => ∃ t : Nat, i = .int .i64 t ∧ t ≤ 64 ∧ wr.heap[w.heap.size]? = some (.cells (wvs M).toArray 80) ∧ wr.heap[w.heap.size + 1]? = some (.cells (wvs z8).toArray 80) ∧ wr.heap[g5]? = some (.cells (wvs KT).toArray 100) ∧ wr.heap[g6]? = some (.cells (wvs (rnds s WS t).list).toArray 80) ∧ Below w.heap.size w wr) (fun i _ => 64 - (intOf i).toNat)
  case atStart => exact ⟨0, rfl, by omega, a2, a4, a5, a6', hBZ⟩
  case round =>
    clear a2 a4 a5 a6' hBZ
    obtain ⟨t, rfl, ht, a2, a4, a5, a6, hB⟩ := hrel
    by_cases hlt : t < 64
    · have g1 : (t : Int) < 64 := by omega
      obtain ⟨ww, hww⟩ : ∃ x, WS[t]? = some x := ⟨_, List.getElem?_eq_getElem (by omega)⟩
      obtain ⟨kk, hkk⟩ : ∃ x, KT[t]? = some x := ⟨_, List.getElem?_eq_getElem (by omega)⟩
      have HR : Hid (rnds s WS (t + 1) = rnd (rnds s WS t) kk ww) := Lib.hid (by rw [rnds, hKT]; unfold wAt; rw [hww, hkk]; rfl)
      obtain ⟨v, hv⟩ : ∃ v, rnds s WS t = v := ⟨_, rfl⟩
      rw [hv] at HR a6
      obtain ⟨va, vb, vc, vd, ve, vf, vg, vh⟩ := v
      have kc := blk_cell a5 (wvs_at hkk)
      have wc := fun W => run_index_w (t := 100) (n := 64) Try.underlying100 hlt hww W
      have c0 := blk_cell (k := 0) a6 rfl
      have c1 := blk_cell (k := 1) a6 rfl
      have c2 := blk_cell (k := 2) a6 rfl
      have c3 := blk_cell (k := 3) a6 rfl
      have c4 := blk_cell (k := 4) a6 rfl
      have c5 := blk_cell (k := 5) a6 rfl
      have c6 := blk_cell (k := 6) a6 rfl
      have c7 := blk_cell (k := 7) a6 rfl
      unfold wv at c0 c1 c2 c3 c4 c5 c6 c7
      clear hv hww hkk
      have hz1 : g6 < wr.heap.size := (Array.getElem?_eq_some_iff.1 a6).1
      have hz2 : g5 < wr.heap.size := (Array.getElem?_eq_some_iff.1 a5).1
      have hzr := hB.size
      obtain ⟨rE, hrE⟩ : ∃ r, ror ve 6 ^^^ ror ve 11 ^^^ ror ve 25 = r := ⟨_, rfl⟩
      obtain ⟨rA, hrA⟩ : ∃ r, ror va 2 ^^^ ror va 13 ^^^ ror va 22 = r := ⟨_, rfl⟩
      have hE := fun W g h => turned3 ve 6 11 25 (by omega) (by omega) (by omega) W g h
      have hA := fun W g h => turned3 va 2 13 22 (by omega) (by omega) (by omega) W g h
      rw [hrE] at hE
      rw [hrA] at hA
      have HX : Hid (rx ⟨va, vb, vc, vd, ve, vf, vg, vh⟩ kk ww = vh + rE + cho ve vf vg + kk + ww) := Lib.hid (by unfold rx big1; rw [hrE])
      have HY : Hid (ry ⟨va, vb, vc, vd, ve, vf, vg, vh⟩ = rA + most va vb vc) := Lib.hid (by unfold ry big0; rw [hrA])
      clear hrE hrA
      let S : World → Prop := fun w' => w'.cell? ⟨g6, 4, none⟩ = some (.int .u32 (ve.toNat : Int)) ∧ w'.cell? ⟨g6, 5, none⟩ = some (.int .u32 (vf.toNat : Int)) ∧ w'.cell? ⟨g6, 6, none⟩ = some (.int .u32 (vg.toNat : Int)) ∧ w'.cell? ⟨g6, 7, none⟩ = some (.int .u32 (vh.toNat : Int)) ∧ w'.cell? ⟨g5, t, none⟩ = some (.int .u32 (kk.toNat : Int))
      have hS0 : S wr.drew := ⟨c4, c5, c6, c7, kc⟩
      have hS1 : ∀ o : Obj, S (wr.drew.alloc o) := fun o => ⟨(World.cell?_alloc_lt _ _ _ hz1).trans c4, (World.cell?_alloc_lt _ _ _ hz1).trans c5, (World.cell?_alloc_lt _ _ _ hz1).trans c6, (World.cell?_alloc_lt _ _ _ hz1).trans c7, (World.cell?_alloc_lt _ _ _ hz2).trans kc⟩
      go_upto_region 6 with (fail)
      refine wp_region_held (S := S) (by kernel_rfl) ?_
      change wpAnyH _ _ _ _ S _ _ _ wr.drew
      refine wpAnyH_take (i := 0) (oi := ?oi_1) (v := ?v_1) ?ho_1 ?h1_1 ?h2_1 ?h3_1 ?hq_1 (Or.inl ⟨?hw_1, ?hy_1⟩) ?hs_1 ?rest_1; (case h2_1 => kernel_rfl); (case h3_1 => kernel_rfl); (case ho_1 => (simp only [List.getElem?_toArray, List.getElem?_cons_zero, List.getElem?_cons_succ]; rfl)); (case h1_1 => kernel_rfl); (case hq_1 => exact fun _ _ _ h => h); (case hw_1 => rfl); (case hy_1 => (intro w' hSw; (try simp only [S] at hSw); go_simp; (try with_reducible rfl))); (case hs_1 => assumption); (try simp only [Act.put, List.setIfInBounds_toArray, List.set_cons_zero, List.set_cons_succ])
      refine wpAnyH_take (i := 1) (oi := ?oi_2) (v := ?v_2) ?ho_2 ?h1_2 ?h2_2 ?h3_2 ?hq_2 (Or.inl ⟨?hw_2, ?hy_2⟩) ?hs_2 ?rest_2; (case h2_2 => kernel_rfl); (case h3_2 => kernel_rfl); (case ho_2 => (simp only [List.getElem?_toArray, List.getElem?_cons_zero, List.getElem?_cons_succ]; rfl)); (case h1_2 => kernel_rfl); (case hq_2 => exact fun _ _ _ h => h); (case hw_2 => rfl); (case hy_2 => (intro w' hSw; (try simp only [S] at hSw); go_simp; (try with_reducible rfl))); (case hs_2 => assumption); (try simp only [Act.put, List.setIfInBounds_toArray, List.set_cons_zero, List.set_cons_succ])
      refine wpAnyH_take (i := 2) (oi := ?oi_3) (v := ?v_3) ?ho_3 ?h1_3 ?h2_3 ?h3_3 ?hq_3 (Or.inl ⟨?hw_3, ?hy_3⟩) ?hs_3 ?rest_3; (case h2_3 => kernel_rfl); (case h3_3 => kernel_rfl); (case ho_3 => (simp only [List.getElem?_toArray, List.getElem?_cons_zero, List.getElem?_cons_succ]; rfl)); (case h1_3 => kernel_rfl); (case hq_3 => exact fun _ _ _ h => h); (case hw_3 => rfl); (case hy_3 => (intro w' hSw; (try simp only [S] at hSw); go_simp; (try with_reducible rfl))); (case hs_3 => assumption); (try simp only [Act.put, List.setIfInBounds_toArray, List.set_cons_zero, List.set_cons_succ])
      refine wpAnyH_take (i := 3) (oi := ?oi_4) (v := ?v_4) ?ho_4 ?h1_4 ?h2_4 ?h3_4 ?hq_4 (Or.inl ⟨?hw_4, ?hy_4⟩) ?hs_4 ?rest_4; (case h2_4 => kernel_rfl); (case h3_4 => kernel_rfl); (case ho_4 => (simp only [List.getElem?_toArray, List.getElem?_cons_zero, List.getElem?_cons_succ]; rfl)); (case h1_4 => kernel_rfl); (case hq_4 => exact fun _ _ _ h => h); (case hw_4 => rfl); (case hy_4 => (intro w' hSw; (try simp only [S] at hSw); go_simp; (try with_reducible rfl))); (case hs_4 => assumption); (try simp only [Act.put, List.setIfInBounds_toArray, List.set_cons_zero, List.set_cons_succ])
      refine wpAnyH_take (i := 7) (oi := ?oi_5) (v := ?v_5) ?ho_5 ?h1_5 ?h2_5 ?h3_5 ?hq_5 (Or.inl ⟨?hw_5, ?hy_5⟩) ?hs_5 ?rest_5; (case h2_5 => kernel_rfl); (case h3_5 => kernel_rfl); (case ho_5 => (simp only [List.getElem?_toArray, List.getElem?_cons_zero, List.getElem?_cons_succ]; rfl)); (case h1_5 => kernel_rfl); (case hq_5 => exact fun _ _ _ h => h); (case hw_5 => rfl); (case hy_5 => (intro w' hSw; (try simp only [S] at hSw); go_simp; (try with_reducible rfl))); (case hs_5 => assumption); (try simp only [Act.put, List.setIfInBounds_toArray, List.set_cons_zero, List.set_cons_succ])
      refine wpAnyH_take (i := 8) (oi := ?oi_6) (v := ?v_6) ?ho_6 ?h1_6 ?h2_6 ?h3_6 ?hq_6 (Or.inl ⟨?hw_6, ?hy_6⟩) ?hs_6 ?rest_6; (case h2_6 => kernel_rfl); (case h3_6 => kernel_rfl); (case ho_6 => (simp only [List.getElem?_toArray, List.getElem?_cons_zero, List.getElem?_cons_succ]; rfl)); (case h1_6 => kernel_rfl); (case hq_6 => exact fun _ _ _ h => h); (case hw_6 => rfl); (case hy_6 => (intro w' hSw; (try simp only [S] at hSw); go_simp; (try with_reducible rfl))); (case hs_6 => assumption); (try simp only [Act.put, List.setIfInBounds_toArray, List.set_cons_zero, List.set_cons_succ])
      refine wpAnyH_take (i := 9) (oi := ?oi_7) (v := ?v_7) ?ho_7 ?h1_7 ?h2_7 ?h3_7 ?hq_7 (Or.inl ⟨?hw_7, ?hy_7⟩) ?hs_7 ?rest_7; (case h2_7 => kernel_rfl); (case h3_7 => kernel_rfl); (case ho_7 => (simp only [List.getElem?_toArray, List.getElem?_cons_zero, List.getElem?_cons_succ]; rfl)); (case h1_7 => kernel_rfl); (case hq_7 => exact fun _ _ _ h => h); (case hw_7 => rfl); (case hy_7 => (intro w' hSw; (try simp only [S] at hSw); go_simp; (try with_reducible rfl))); (case hs_7 => assumption); (try simp only [Act.put, List.setIfInBounds_toArray, List.set_cons_zero, List.set_cons_succ])
      refine wpAnyH_take (i := 10) (oi := ?oi_8) (v := ?v_8) ?ho_8 ?h1_8 ?h2_8 ?h3_8 ?hq_8 (Or.inl ⟨?hw_8, ?hy_8⟩) ?hs_8 ?rest_8; (case h2_8 => kernel_rfl); (case h3_8 => kernel_rfl); (case ho_8 => (simp only [List.getElem?_toArray, List.getElem?_cons_zero, List.getElem?_cons_succ]; rfl)); (case h1_8 => kernel_rfl); (case hq_8 => exact fun _ _ _ h => h); (case hw_8 => rfl); (case hy_8 => (intro w' hSw; (try simp only [S] at hSw); go_simp; (try with_reducible rfl))); (case hs_8 => assumption); (try simp only [Act.put, List.setIfInBounds_toArray, List.set_cons_zero, List.set_cons_succ])
      refine wpAnyH_take (i := 11) (oi := ?oi_9) (v := ?v_9) ?ho_9 ?h1_9 ?h2_9 ?h3_9 ?hq_9 (Or.inl ⟨?hw_9, ?hy_9⟩) ?hs_9 ?rest_9; (case h2_9 => kernel_rfl); (case h3_9 => kernel_rfl); (case ho_9 => (simp only [List.getElem?_toArray, List.getElem?_cons_zero, List.getElem?_cons_succ]; rfl)); (case h1_9 => kernel_rfl); (case hq_9 => exact fun _ _ _ h => h); (case hw_9 => rfl); (case hy_9 => (intro w' hSw; (try simp only [S] at hSw); go_simp; (try with_reducible rfl))); (case hs_9 => assumption); (try simp only [Act.put, List.setIfInBounds_toArray, List.set_cons_zero, List.set_cons_succ])
      refine wpAnyH_take (i := 12) (oi := ?oi_10) (v := ?v_10) ?ho_10 ?h1_10 ?h2_10 ?h3_10 ?hq_10 (Or.inl ⟨?hw_10, ?hy_10⟩) ?hs_10 ?rest_10; (case h2_10 => kernel_rfl); (case h3_10 => kernel_rfl); (case ho_10 => (simp only [List.getElem?_toArray, List.getElem?_cons_zero, List.getElem?_cons_succ]; rfl)); (case h1_10 => kernel_rfl); (case hq_10 => exact fun _ _ _ h => h); (case hw_10 => rfl); (case hy_10 => (intro w' hSw; (try simp only [S] at hSw); go_simp; (try with_reducible rfl))); (case hs_10 => assumption); (try simp only [Act.put, List.setIfInBounds_toArray, List.set_cons_zero, List.set_cons_succ])
      refine wpAnyH_take (i := 13) (oi := ?oi_11) (v := ?v_11) ?ho_11 ?h1_11 ?h2_11 ?h3_11 ?hq_11 (Or.inl ⟨?hw_11, ?hy_11⟩) ?hs_11 ?rest_11; (case h2_11 => kernel_rfl); (case h3_11 => kernel_rfl); (case ho_11 => (simp only [List.getElem?_toArray, List.getElem?_cons_zero, List.getElem?_cons_succ]; rfl)); (case h1_11 => kernel_rfl); (case hq_11 => exact fun _ _ _ h => h); (case hw_11 => rfl); (case hy_11 => (intro w' hSw; (try simp only [S] at hSw); go_simp; (try with_reducible rfl))); (case hs_11 => assumption); (try simp only [Act.put, List.setIfInBounds_toArray, List.set_cons_zero, List.set_cons_succ])
      refine wpAnyH_take (i := 14) (oi := ?oi_12) (v := ?v_12) ?ho_12 ?h1_12 ?h2_12 ?h3_12 ?hq_12 (Or.inl ⟨?hw_12, ?hy_12⟩) ?hs_12 ?rest_12; (case h2_12 => kernel_rfl); (case h3_12 => kernel_rfl); (case ho_12 => (simp only [List.getElem?_toArray, List.getElem?_cons_zero, List.getElem?_cons_succ]; rfl)); (case h1_12 => kernel_rfl); (case hq_12 => exact fun _ _ _ h => h); (case hw_12 => rfl); (case hy_12 => (intro w' hSw; (try simp only [S] at hSw); go_simp; (try with_reducible rfl))); (case hs_12 => assumption); (try simp only [Act.put, List.setIfInBounds_toArray, List.set_cons_zero, List.set_cons_succ])
      refine wpAnyH_take (i := 15) (oi := ?oi_13) (v := ?v_13) ?ho_13 ?h1_13 ?h2_13 ?h3_13 ?hq_13 (Or.inl ⟨?hw_13, ?hy_13⟩) ?hs_13 ?rest_13; (case h2_13 => kernel_rfl); (case h3_13 => kernel_rfl); (case ho_13 => (simp only [List.getElem?_toArray, List.getElem?_cons_zero, List.getElem?_cons_succ]; rfl)); (case h1_13 => kernel_rfl); (case hq_13 => exact fun _ _ _ h => h); (case hw_13 => rfl); (case hy_13 => (intro w' hSw; (try simp only [S] at hSw); go_simp; (try with_reducible rfl))); (case hs_13 => assumption); (try simp only [Act.put, List.setIfInBounds_toArray, List.set_cons_zero, List.set_cons_succ])
      refine wpAnyH_take (i := 16) (oi := ?oi_14) (v := ?v_14) ?ho_14 ?h1_14 ?h2_14 ?h3_14 ?hq_14 (Or.inl ⟨?hw_14, ?hy_14⟩) ?hs_14 ?rest_14; (case h2_14 => kernel_rfl); (case h3_14 => kernel_rfl); (case ho_14 => (simp only [List.getElem?_toArray, List.getElem?_cons_zero, List.getElem?_cons_succ]; rfl)); (case h1_14 => kernel_rfl); (case hq_14 => exact fun _ _ _ h => h); (case hw_14 => rfl); (case hy_14 => (intro w' hSw; (try simp only [S] at hSw); go_simp; (try with_reducible rfl))); (case hs_14 => assumption); (try simp only [Act.put, List.setIfInBounds_toArray, List.set_cons_zero, List.set_cons_succ])
      refine wpAnyH_take (i := 17) (oi := ?oi_15) (v := ?v_15) ?ho_15 ?h1_15 ?h2_15 ?h3_15 ?hq_15 (Or.inl ⟨?hw_15, ?hy_15⟩) ?hs_15 ?rest_15; (case h2_15 => kernel_rfl); (case h3_15 => kernel_rfl); (case ho_15 => (simp only [List.getElem?_toArray, List.getElem?_cons_zero, List.getElem?_cons_succ]; rfl)); (case h1_15 => kernel_rfl); (case hq_15 => exact fun _ _ _ h => h); (case hw_15 => rfl); (case hy_15 => (intro w' hSw; (try simp only [S] at hSw); go_simp; (try with_reducible rfl))); (case hs_15 => assumption); (try simp only [Act.put, List.setIfInBounds_toArray, List.set_cons_zero, List.set_cons_succ])
      refine wpAnyH_take (i := 18) (oi := ?oi_16) (v := ?v_16) ?ho_16 ?h1_16 ?h2_16 ?h3_16 ?hq_16 (Or.inl ⟨?hw_16, ?hy_16⟩) ?hs_16 ?rest_16; (case h2_16 => kernel_rfl); (case h3_16 => kernel_rfl); (case ho_16 => (simp only [List.getElem?_toArray, List.getElem?_cons_zero, List.getElem?_cons_succ]; rfl)); (case h1_16 => kernel_rfl); (case hq_16 => exact fun _ _ _ h => h); (case hw_16 => rfl); (case hy_16 => (intro w' hSw; (try simp only [S] at hSw); go_simp; (try with_reducible rfl))); (case hs_16 => assumption); (try simp only [Act.put, List.setIfInBounds_toArray, List.set_cons_zero, List.set_cons_succ])
      refine wpAnyH_take (i := 20) (oi := ?oi_17) (v := ?v_17) ?ho_17 ?h1_17 ?h2_17 ?h3_17 ?hq_17 (Or.inl ⟨?hw_17, ?hy_17⟩) ?hs_17 ?rest_17; (case h2_17 => kernel_rfl); (case h3_17 => kernel_rfl); (case ho_17 => (simp only [List.getElem?_toArray, List.getElem?_cons_zero, List.getElem?_cons_succ]; rfl)); (case h1_17 => kernel_rfl); (case hq_17 => exact fun _ _ _ h => h); (case hw_17 => rfl); (case hy_17 => (intro w' hSw; (try simp only [S] at hSw); go_simp; (try with_reducible rfl))); (case hs_17 => assumption); (try simp only [Act.put, List.setIfInBounds_toArray, List.set_cons_zero, List.set_cons_succ])
      refine wpAnyH_take (i := 21) (oi := ?oi_18) (v := ?v_18) ?ho_18 ?h1_18 ?h2_18 ?h3_18 ?hq_18 (Or.inl ⟨?hw_18, ?hy_18⟩) ?hs_18 ?rest_18; (case h2_18 => kernel_rfl); (case h3_18 => kernel_rfl); (case ho_18 => (simp only [List.getElem?_toArray, List.getElem?_cons_zero, List.getElem?_cons_succ]; rfl)); (case h1_18 => kernel_rfl); (case hq_18 => exact fun _ _ _ h => h); (case hw_18 => rfl); (case hy_18 => (intro w' hSw; (try simp only [S] at hSw); go_simp; (try with_reducible rfl))); (case hs_18 => assumption); (try simp only [Act.put, List.setIfInBounds_toArray, List.set_cons_zero, List.set_cons_succ])
      refine wpAnyH_take (i := 22) (oi := ?oi_19) (v := ?v_19) ?ho_19 ?h1_19 ?h2_19 ?h3_19 ?hq_19 (Or.inl ⟨?hw_19, ?hy_19⟩) ?hs_19 ?rest_19; (case h2_19 => kernel_rfl); (case h3_19 => kernel_rfl); (case ho_19 => (simp only [List.getElem?_toArray, List.getElem?_cons_zero, List.getElem?_cons_succ]; rfl)); (case h1_19 => kernel_rfl); (case hq_19 => exact fun _ _ _ h => h); (case hw_19 => rfl); (case hy_19 => (intro w' hSw; (try simp only [S] at hSw); go_simp; (try with_reducible rfl))); (case hs_19 => assumption); (try simp only [Act.put, List.setIfInBounds_toArray, List.set_cons_zero, List.set_cons_succ])
      refine wpAnyH_take (i := 24) (oi := ?oi_20) (v := ?v_20) ?ho_20 ?h1_20 ?h2_20 ?h3_20 ?hq_20 (Or.inl ⟨?hw_20, ?hy_20⟩) ?hs_20 ?rest_20; (case h2_20 => kernel_rfl); (case h3_20 => kernel_rfl); (case ho_20 => (simp only [List.getElem?_toArray, List.getElem?_cons_zero, List.getElem?_cons_succ]; rfl)); (case h1_20 => kernel_rfl); (case hq_20 => exact fun _ _ _ h => h); (case hw_20 => rfl); (case hy_20 => (intro w' hSw; (try simp only [S] at hSw); go_simp; (try with_reducible rfl))); (case hs_20 => assumption); (try simp only [Act.put, List.setIfInBounds_toArray, List.set_cons_zero, List.set_cons_succ])
      refine wpAnyH_ready (rs := [4]) (by kernel_rfl) (by simp) (AllReadyH.cons (o := ?oo4_47) ?hoo4_47 (fun K hK => ?steponly47) AllReadyH.nil); (case hoo4_47 => (simp only [List.getElem?_toArray, List.getElem?_cons_zero, List.getElem?_cons_succ]; rfl))
      go_simp
      refine hK.out _ _ (hS1 _) (fun _ => ?_)
      clear hK K
      (try simp only [Act.put, List.setIfInBounds_toArray, List.set_cons_zero, List.set_cons_succ])
      refine wpAnyH_ready (rs := [5]) (by kernel_rfl) (by simp) (AllReadyH.cons (o := ?oo5_48) ?hoo5_48 (fun K hK => ?steponly48) AllReadyH.nil); (case hoo5_48 => (simp only [List.getElem?_toArray, List.getElem?_cons_zero, List.getElem?_cons_succ]; rfl))
      go_simp
      refine Calls.mono (hE _ _ ?_) ?_
      · exact heap_alloc_new wr _
      rintro e _ ⟨rfl, rfl⟩
      refine hK.out _ _ (hS1 _) (fun _ => ?_)
      clear hK K
      (try simp only [Act.put, List.setIfInBounds_toArray, List.set_cons_zero, List.set_cons_succ])
      refine wpAnyH_take (i := 6) (oi := ?oi_21) (v := ?v_21) ?ho_21 ?h1_21 ?h2_21 ?h3_21 ?hq_21 (Or.inl ⟨?hw_21, ?hy_21⟩) ?hs_21 ?rest_21; (case h2_21 => kernel_rfl); (case h3_21 => kernel_rfl); (case ho_21 => (simp only [List.getElem?_toArray, List.getElem?_cons_zero, List.getElem?_cons_succ]; rfl)); (case h1_21 => kernel_rfl); (case hq_21 => exact fun _ _ _ h => h); (case hw_21 => rfl); (case hy_21 => (intro w' hSw; (try simp only [S] at hSw); go_simp; (try with_reducible rfl))); (case hs_21 => assumption); (try simp only [Act.put, List.setIfInBounds_toArray, List.set_cons_zero, List.set_cons_succ])
      refine wpAnyH_take (i := 19) (oi := ?oi_22) (v := ?v_22) ?ho_22 ?h1_22 ?h2_22 ?h3_22 ?hq_22 (Or.inl ⟨?hw_22, ?hy_22⟩) ?hs_22 ?rest_22; (case h2_22 => kernel_rfl); (case h3_22 => kernel_rfl); (case ho_22 => (simp only [List.getElem?_toArray, List.getElem?_cons_zero, List.getElem?_cons_succ]; rfl)); (case h1_22 => kernel_rfl); (case hq_22 => exact fun _ _ _ h => h); (case hw_22 => rfl); (case hy_22 => (intro w' hSw; (try simp only [S] at hSw); go_simp; (try with_reducible rfl))); (case hs_22 => assumption); (try simp only [Act.put, List.setIfInBounds_toArray, List.set_cons_zero, List.set_cons_succ])
      refine wpAnyH_take (i := 23) (oi := ?oi_23) (v := ?v_23) ?ho_23 ?h1_23 ?h2_23 ?h3_23 ?hq_23 (Or.inl ⟨?hw_23, ?hy_23⟩) ?hs_23 ?rest_23; (case h2_23 => kernel_rfl); (case h3_23 => kernel_rfl); (case ho_23 => (simp only [List.getElem?_toArray, List.getElem?_cons_zero, List.getElem?_cons_succ]; rfl)); (case h1_23 => kernel_rfl); (case hq_23 => exact fun _ _ _ h => h); (case hw_23 => rfl); (case hy_23 => (intro w' hSw; (try simp only [S] at hSw); go_simp; (try with_reducible rfl))); (case hs_23 => assumption); (try simp only [Act.put, List.setIfInBounds_toArray, List.set_cons_zero, List.set_cons_succ])
      refine wpAnyH_take (i := 25) (oi := ?oi_24) (v := ?v_24) ?ho_24 ?h1_24 ?h2_24 ?h3_24 ?hq_24 (Or.inl ⟨?hw_24, ?hy_24⟩) ?hs_24 ?rest_24; (case h2_24 => kernel_rfl); (case h3_24 => kernel_rfl); (case ho_24 => (simp only [List.getElem?_toArray, List.getElem?_cons_zero, List.getElem?_cons_succ]; rfl)); (case h1_24 => kernel_rfl); (case hq_24 => exact fun _ _ _ h => h); (case hw_24 => rfl); (case hy_24 => (intro w' hSw; (try simp only [S] at hSw); go_simp; (try with_reducible rfl))); (case hs_24 => assumption); (try simp only [Act.put, List.setIfInBounds_toArray, List.set_cons_zero, List.set_cons_succ])
      refine wpAnyH_take (i := 26) (oi := ?oi_25) (v := ?v_25) ?ho_25 ?h1_25 ?h2_25 ?h3_25 ?hq_25 (Or.inl ⟨?hw_25, ?hy_25⟩) ?hs_25 ?rest_25; (case h2_25 => kernel_rfl); (case h3_25 => kernel_rfl); (case ho_25 => (simp only [List.getElem?_toArray, List.getElem?_cons_zero, List.getElem?_cons_succ]; rfl)); (case h1_25 => kernel_rfl); (case hq_25 => exact fun _ _ _ h => h); (case hw_25 => rfl); (case hy_25 => (intro w' hSw; (try simp only [S] at hSw); go_simp; (try with_reducible rfl))); (case hs_25 => assumption); (try simp only [Act.put, List.setIfInBounds_toArray, List.set_cons_zero, List.set_cons_succ])
      refine wpAnyH_done (by kernel_rfl) ?_ _
      simp only [hnot, w_not, w_add, w_and, w_xor]
      obtain ⟨x1, hx1⟩ : ∃ x, rx ⟨va, vb, vc, vd, ve, vf, vg, vh⟩ kk ww = x := ⟨_, rfl⟩
      rw [hx1] at HX
      have hx2 : vh + rE + ((ve &&& vf) ^^^ (~~~ve &&& vg)) + kk + ww = x1 := HX.out.symm
      rw [hx2]
      have hbV : Below wr.heap.size wr (World.drew (wr.alloc (.cells #[.int .i64 6, .int .i64 11, .int .i64 25] 3))) := ((Below.refl _ _).alloc (Nat.le_refl _) _).drew
      generalize World.drew (World.alloc wr _) = V at *
      clear hS0 hS1 c4 c5 c6 c7 kc HX hx2
      replace a2 := bBlk hbV (by omega) a2
      replace a4 := bBlk hbV (by omega) a4
      replace a5 := bBlk hbV (by omega) a5
      replace a6 := bBlk hbV (by omega) a6
      replace hB := hB.trans (hbV.mono (by omega))
      have hzV := hbV.size
      clear hbV c0 c1 c2 c3
      have c0 := blk_cell (k := 0) a6 rfl
      have c1 := blk_cell (k := 1) a6 rfl
      have c2 := blk_cell (k := 2) a6 rfl
      unfold wv at c0 c1 c2
      let S : World → Prop := fun w' => w'.cell? ⟨g6, 0, none⟩ = some (.int .u32 (va.toNat : Int)) ∧ w'.cell? ⟨g6, 1, none⟩ = some (.int .u32 (vb.toNat : Int)) ∧ w'.cell? ⟨g6, 2, none⟩ = some (.int .u32 (vc.toNat : Int))
      have hS0 : S V.drew := ⟨c0, c1, c2⟩
      have hS1 : ∀ o : Obj, S (V.drew.alloc o) := fun o => ⟨(World.cell?_alloc_lt _ _ _ (show g6 < V.heap.size by omega)).trans c0, (World.cell?_alloc_lt _ _ _ (show g6 < V.heap.size by omega)).trans c1, (World.cell?_alloc_lt _ _ _ (show g6 < V.heap.size by omega)).trans c2⟩
      go_upto_region 7 with (fail)
      refine wp_region_held (S := S) (by kernel_rfl) ?_
      change wpAnyH _ _ _ _ S _ _ _ V.drew
      refine wpAnyH_take (i := 0) (oi := ?oi_26) (v := ?v_26) ?ho_26 ?h1_26 ?h2_26 ?h3_26 ?hq_26 (Or.inl ⟨?hw_26, ?hy_26⟩) ?hs_26 ?rest_26; (case h2_26 => kernel_rfl); (case h3_26 => kernel_rfl); (case ho_26 => (simp only [List.getElem?_toArray, List.getElem?_cons_zero, List.getElem?_cons_succ]; rfl)); (case h1_26 => kernel_rfl); (case hq_26 => exact fun _ _ _ h => h); (case hw_26 => rfl); (case hy_26 => (intro w' hSw; (try simp only [S] at hSw); go_simp; (try with_reducible rfl))); (case hs_26 => assumption); (try simp only [Act.put, List.setIfInBounds_toArray, List.set_cons_zero, List.set_cons_succ])
      refine wpAnyH_take (i := 1) (oi := ?oi_27) (v := ?v_27) ?ho_27 ?h1_27 ?h2_27 ?h3_27 ?hq_27 (Or.inl ⟨?hw_27, ?hy_27⟩) ?hs_27 ?rest_27; (case h2_27 => kernel_rfl); (case h3_27 => kernel_rfl); (case ho_27 => (simp only [List.getElem?_toArray, List.getElem?_cons_zero, List.getElem?_cons_succ]; rfl)); (case h1_27 => kernel_rfl); (case hq_27 => exact fun _ _ _ h => h); (case hw_27 => rfl); (case hy_27 => (intro w' hSw; (try simp only [S] at hSw); go_simp; (try with_reducible rfl))); (case hs_27 => assumption); (try simp only [Act.put, List.setIfInBounds_toArray, List.set_cons_zero, List.set_cons_succ])
      refine wpAnyH_take (i := 4) (oi := ?oi_28) (v := ?v_28) ?ho_28 ?h1_28 ?h2_28 ?h3_28 ?hq_28 (Or.inl ⟨?hw_28, ?hy_28⟩) ?hs_28 ?rest_28; (case h2_28 => kernel_rfl); (case h3_28 => kernel_rfl); (case ho_28 => (simp only [List.getElem?_toArray, List.getElem?_cons_zero, List.getElem?_cons_succ]; rfl)); (case h1_28 => kernel_rfl); (case hq_28 => exact fun _ _ _ h => h); (case hw_28 => rfl); (case hy_28 => (intro w' hSw; (try simp only [S] at hSw); go_simp; (try with_reducible rfl))); (case hs_28 => assumption); (try simp only [Act.put, List.setIfInBounds_toArray, List.set_cons_zero, List.set_cons_succ])
      refine wpAnyH_take (i := 5) (oi := ?oi_29) (v := ?v_29) ?ho_29 ?h1_29 ?h2_29 ?h3_29 ?hq_29 (Or.inl ⟨?hw_29, ?hy_29⟩) ?hs_29 ?rest_29; (case h2_29 => kernel_rfl); (case h3_29 => kernel_rfl); (case ho_29 => (simp only [List.getElem?_toArray, List.getElem?_cons_zero, List.getElem?_cons_succ]; rfl)); (case h1_29 => kernel_rfl); (case hq_29 => exact fun _ _ _ h => h); (case hw_29 => rfl); (case hy_29 => (intro w' hSw; (try simp only [S] at hSw); go_simp; (try with_reducible rfl))); (case hs_29 => assumption); (try simp only [Act.put, List.setIfInBounds_toArray, List.set_cons_zero, List.set_cons_succ])
      refine wpAnyH_take (i := 6) (oi := ?oi_30) (v := ?v_30) ?ho_30 ?h1_30 ?h2_30 ?h3_30 ?hq_30 (Or.inl ⟨?hw_30, ?hy_30⟩) ?hs_30 ?rest_30; (case h2_30 => kernel_rfl); (case h3_30 => kernel_rfl); (case ho_30 => (simp only [List.getElem?_toArray, List.getElem?_cons_zero, List.getElem?_cons_succ]; rfl)); (case h1_30 => kernel_rfl); (case hq_30 => exact fun _ _ _ h => h); (case hw_30 => rfl); (case hy_30 => (intro w' hSw; (try simp only [S] at hSw); go_simp; (try with_reducible rfl))); (case hs_30 => assumption); (try simp only [Act.put, List.setIfInBounds_toArray, List.set_cons_zero, List.set_cons_succ])
      refine wpAnyH_take (i := 7) (oi := ?oi_31) (v := ?v_31) ?ho_31 ?h1_31 ?h2_31 ?h3_31 ?hq_31 (Or.inl ⟨?hw_31, ?hy_31⟩) ?hs_31 ?rest_31; (case h2_31 => kernel_rfl); (case h3_31 => kernel_rfl); (case ho_31 => (simp only [List.getElem?_toArray, List.getElem?_cons_zero, List.getElem?_cons_succ]; rfl)); (case h1_31 => kernel_rfl); (case hq_31 => exact fun _ _ _ h => h); (case hw_31 => rfl); (case hy_31 => (intro w' hSw; (try simp only [S] at hSw); go_simp; (try with_reducible rfl))); (case hs_31 => assumption); (try simp only [Act.put, List.setIfInBounds_toArray, List.set_cons_zero, List.set_cons_succ])
      refine wpAnyH_take (i := 8) (oi := ?oi_32) (v := ?v_32) ?ho_32 ?h1_32 ?h2_32 ?h3_32 ?hq_32 (Or.inl ⟨?hw_32, ?hy_32⟩) ?hs_32 ?rest_32; (case h2_32 => kernel_rfl); (case h3_32 => kernel_rfl); (case ho_32 => (simp only [List.getElem?_toArray, List.getElem?_cons_zero, List.getElem?_cons_succ]; rfl)); (case h1_32 => kernel_rfl); (case hq_32 => exact fun _ _ _ h => h); (case hw_32 => rfl); (case hy_32 => (intro w' hSw; (try simp only [S] at hSw); go_simp; (try with_reducible rfl))); (case hs_32 => assumption); (try simp only [Act.put, List.setIfInBounds_toArray, List.set_cons_zero, List.set_cons_succ])
      refine wpAnyH_take (i := 9) (oi := ?oi_33) (v := ?v_33) ?ho_33 ?h1_33 ?h2_33 ?h3_33 ?hq_33 (Or.inl ⟨?hw_33, ?hy_33⟩) ?hs_33 ?rest_33; (case h2_33 => kernel_rfl); (case h3_33 => kernel_rfl); (case ho_33 => (simp only [List.getElem?_toArray, List.getElem?_cons_zero, List.getElem?_cons_succ]; rfl)); (case h1_33 => kernel_rfl); (case hq_33 => exact fun _ _ _ h => h); (case hw_33 => rfl); (case hy_33 => (intro w' hSw; (try simp only [S] at hSw); go_simp; (try with_reducible rfl))); (case hs_33 => assumption); (try simp only [Act.put, List.setIfInBounds_toArray, List.set_cons_zero, List.set_cons_succ])
      refine wpAnyH_take (i := 10) (oi := ?oi_34) (v := ?v_34) ?ho_34 ?h1_34 ?h2_34 ?h3_34 ?hq_34 (Or.inl ⟨?hw_34, ?hy_34⟩) ?hs_34 ?rest_34; (case h2_34 => kernel_rfl); (case h3_34 => kernel_rfl); (case ho_34 => (simp only [List.getElem?_toArray, List.getElem?_cons_zero, List.getElem?_cons_succ]; rfl)); (case h1_34 => kernel_rfl); (case hq_34 => exact fun _ _ _ h => h); (case hw_34 => rfl); (case hy_34 => (intro w' hSw; (try simp only [S] at hSw); go_simp; (try with_reducible rfl))); (case hs_34 => assumption); (try simp only [Act.put, List.setIfInBounds_toArray, List.set_cons_zero, List.set_cons_succ])
      refine wpAnyH_take (i := 11) (oi := ?oi_35) (v := ?v_35) ?ho_35 ?h1_35 ?h2_35 ?h3_35 ?hq_35 (Or.inl ⟨?hw_35, ?hy_35⟩) ?hs_35 ?rest_35; (case h2_35 => kernel_rfl); (case h3_35 => kernel_rfl); (case ho_35 => (simp only [List.getElem?_toArray, List.getElem?_cons_zero, List.getElem?_cons_succ]; rfl)); (case h1_35 => kernel_rfl); (case hq_35 => exact fun _ _ _ h => h); (case hw_35 => rfl); (case hy_35 => (intro w' hSw; (try simp only [S] at hSw); go_simp; (try with_reducible rfl))); (case hs_35 => assumption); (try simp only [Act.put, List.setIfInBounds_toArray, List.set_cons_zero, List.set_cons_succ])
      refine wpAnyH_take (i := 12) (oi := ?oi_36) (v := ?v_36) ?ho_36 ?h1_36 ?h2_36 ?h3_36 ?hq_36 (Or.inl ⟨?hw_36, ?hy_36⟩) ?hs_36 ?rest_36; (case h2_36 => kernel_rfl); (case h3_36 => kernel_rfl); (case ho_36 => (simp only [List.getElem?_toArray, List.getElem?_cons_zero, List.getElem?_cons_succ]; rfl)); (case h1_36 => kernel_rfl); (case hq_36 => exact fun _ _ _ h => h); (case hw_36 => rfl); (case hy_36 => (intro w' hSw; (try simp only [S] at hSw); go_simp; (try with_reducible rfl))); (case hs_36 => assumption); (try simp only [Act.put, List.setIfInBounds_toArray, List.set_cons_zero, List.set_cons_succ])
      refine wpAnyH_take (i := 13) (oi := ?oi_37) (v := ?v_37) ?ho_37 ?h1_37 ?h2_37 ?h3_37 ?hq_37 (Or.inl ⟨?hw_37, ?hy_37⟩) ?hs_37 ?rest_37; (case h2_37 => kernel_rfl); (case h3_37 => kernel_rfl); (case ho_37 => (simp only [List.getElem?_toArray, List.getElem?_cons_zero, List.getElem?_cons_succ]; rfl)); (case h1_37 => kernel_rfl); (case hq_37 => exact fun _ _ _ h => h); (case hw_37 => rfl); (case hy_37 => (intro w' hSw; (try simp only [S] at hSw); go_simp; (try with_reducible rfl))); (case hs_37 => assumption); (try simp only [Act.put, List.setIfInBounds_toArray, List.set_cons_zero, List.set_cons_succ])
      refine wpAnyH_take (i := 14) (oi := ?oi_38) (v := ?v_38) ?ho_38 ?h1_38 ?h2_38 ?h3_38 ?hq_38 (Or.inl ⟨?hw_38, ?hy_38⟩) ?hs_38 ?rest_38; (case h2_38 => kernel_rfl); (case h3_38 => kernel_rfl); (case ho_38 => (simp only [List.getElem?_toArray, List.getElem?_cons_zero, List.getElem?_cons_succ]; rfl)); (case h1_38 => kernel_rfl); (case hq_38 => exact fun _ _ _ h => h); (case hw_38 => rfl); (case hy_38 => (intro w' hSw; (try simp only [S] at hSw); go_simp; (try with_reducible rfl))); (case hs_38 => assumption); (try simp only [Act.put, List.setIfInBounds_toArray, List.set_cons_zero, List.set_cons_succ])
      refine wpAnyH_take (i := 15) (oi := ?oi_39) (v := ?v_39) ?ho_39 ?h1_39 ?h2_39 ?h3_39 ?hq_39 (Or.inl ⟨?hw_39, ?hy_39⟩) ?hs_39 ?rest_39; (case h2_39 => kernel_rfl); (case h3_39 => kernel_rfl); (case ho_39 => (simp only [List.getElem?_toArray, List.getElem?_cons_zero, List.getElem?_cons_succ]; rfl)); (case h1_39 => kernel_rfl); (case hq_39 => exact fun _ _ _ h => h); (case hw_39 => rfl); (case hy_39 => (intro w' hSw; (try simp only [S] at hSw); go_simp; (try with_reducible rfl))); (case hs_39 => assumption); (try simp only [Act.put, List.setIfInBounds_toArray, List.set_cons_zero, List.set_cons_succ])
      refine wpAnyH_take (i := 16) (oi := ?oi_40) (v := ?v_40) ?ho_40 ?h1_40 ?h2_40 ?h3_40 ?hq_40 (Or.inl ⟨?hw_40, ?hy_40⟩) ?hs_40 ?rest_40; (case h2_40 => kernel_rfl); (case h3_40 => kernel_rfl); (case ho_40 => (simp only [List.getElem?_toArray, List.getElem?_cons_zero, List.getElem?_cons_succ]; rfl)); (case h1_40 => kernel_rfl); (case hq_40 => exact fun _ _ _ h => h); (case hw_40 => rfl); (case hy_40 => (intro w' hSw; (try simp only [S] at hSw); go_simp; (try with_reducible rfl))); (case hs_40 => assumption); (try simp only [Act.put, List.setIfInBounds_toArray, List.set_cons_zero, List.set_cons_succ])
      refine wpAnyH_take (i := 17) (oi := ?oi_41) (v := ?v_41) ?ho_41 ?h1_41 ?h2_41 ?h3_41 ?hq_41 (Or.inl ⟨?hw_41, ?hy_41⟩) ?hs_41 ?rest_41; (case h2_41 => kernel_rfl); (case h3_41 => kernel_rfl); (case ho_41 => (simp only [List.getElem?_toArray, List.getElem?_cons_zero, List.getElem?_cons_succ]; rfl)); (case h1_41 => kernel_rfl); (case hq_41 => exact fun _ _ _ h => h); (case hw_41 => rfl); (case hy_41 => (intro w' hSw; (try simp only [S] at hSw); go_simp; (try with_reducible rfl))); (case hs_41 => assumption); (try simp only [Act.put, List.setIfInBounds_toArray, List.set_cons_zero, List.set_cons_succ])
      refine wpAnyH_take (i := 18) (oi := ?oi_42) (v := ?v_42) ?ho_42 ?h1_42 ?h2_42 ?h3_42 ?hq_42 (Or.inl ⟨?hw_42, ?hy_42⟩) ?hs_42 ?rest_42; (case h2_42 => kernel_rfl); (case h3_42 => kernel_rfl); (case ho_42 => (simp only [List.getElem?_toArray, List.getElem?_cons_zero, List.getElem?_cons_succ]; rfl)); (case h1_42 => kernel_rfl); (case hq_42 => exact fun _ _ _ h => h); (case hw_42 => rfl); (case hy_42 => (intro w' hSw; (try simp only [S] at hSw); go_simp; (try with_reducible rfl))); (case hs_42 => assumption); (try simp only [Act.put, List.setIfInBounds_toArray, List.set_cons_zero, List.set_cons_succ])
      refine wpAnyH_take (i := 19) (oi := ?oi_43) (v := ?v_43) ?ho_43 ?h1_43 ?h2_43 ?h3_43 ?hq_43 (Or.inl ⟨?hw_43, ?hy_43⟩) ?hs_43 ?rest_43; (case h2_43 => kernel_rfl); (case h3_43 => kernel_rfl); (case ho_43 => (simp only [List.getElem?_toArray, List.getElem?_cons_zero, List.getElem?_cons_succ]; rfl)); (case h1_43 => kernel_rfl); (case hq_43 => exact fun _ _ _ h => h); (case hw_43 => rfl); (case hy_43 => (intro w' hSw; (try simp only [S] at hSw); go_simp; (try with_reducible rfl))); (case hs_43 => assumption); (try simp only [Act.put, List.setIfInBounds_toArray, List.set_cons_zero, List.set_cons_succ])
      refine wpAnyH_take (i := 20) (oi := ?oi_44) (v := ?v_44) ?ho_44 ?h1_44 ?h2_44 ?h3_44 ?hq_44 (Or.inl ⟨?hw_44, ?hy_44⟩) ?hs_44 ?rest_44; (case h2_44 => kernel_rfl); (case h3_44 => kernel_rfl); (case ho_44 => (simp only [List.getElem?_toArray, List.getElem?_cons_zero, List.getElem?_cons_succ]; rfl)); (case h1_44 => kernel_rfl); (case hq_44 => exact fun _ _ _ h => h); (case hw_44 => rfl); (case hy_44 => (intro w' hSw; (try simp only [S] at hSw); go_simp; (try with_reducible rfl))); (case hs_44 => assumption); (try simp only [Act.put, List.setIfInBounds_toArray, List.set_cons_zero, List.set_cons_succ])
      refine wpAnyH_ready (rs := [2]) (by kernel_rfl) (by simp) (AllReadyH.cons (o := ?oo2_49) ?hoo2_49 (fun K hK => ?steponly49) AllReadyH.nil); (case hoo2_49 => (simp only [List.getElem?_toArray, List.getElem?_cons_zero, List.getElem?_cons_succ]; rfl))
      go_simp
      refine hK.out _ _ (hS1 _) (fun _ => ?_)
      clear hK K
      (try simp only [Act.put, List.setIfInBounds_toArray, List.set_cons_zero, List.set_cons_succ])
      refine wpAnyH_ready (rs := [3]) (by kernel_rfl) (by simp) (AllReadyH.cons (o := ?oo3_50) ?hoo3_50 (fun K hK => ?steponly50) AllReadyH.nil); (case hoo3_50 => (simp only [List.getElem?_toArray, List.getElem?_cons_zero, List.getElem?_cons_succ]; rfl))
      go_simp
      refine Calls.mono (hA _ _ ?_) ?_
      · exact heap_alloc_new V _
      rintro e _ ⟨rfl, rfl⟩
      refine hK.out _ _ (hS1 _) (fun _ => ?_)
      clear hK K
      (try simp only [Act.put, List.setIfInBounds_toArray, List.set_cons_zero, List.set_cons_succ])
      refine wpAnyH_take (i := 21) (oi := ?oi_45) (v := ?v_45) ?ho_45 ?h1_45 ?h2_45 ?h3_45 ?hq_45 (Or.inl ⟨?hw_45, ?hy_45⟩) ?hs_45 ?rest_45; (case h2_45 => kernel_rfl); (case h3_45 => kernel_rfl); (case ho_45 => (simp only [List.getElem?_toArray, List.getElem?_cons_zero, List.getElem?_cons_succ]; rfl)); (case h1_45 => kernel_rfl); (case hq_45 => exact fun _ _ _ h => h); (case hw_45 => rfl); (case hy_45 => (intro w' hSw; (try simp only [S] at hSw); go_simp; (try with_reducible rfl))); (case hs_45 => assumption); (try simp only [Act.put, List.setIfInBounds_toArray, List.set_cons_zero, List.set_cons_succ])
      refine wpAnyH_take (i := 22) (oi := ?oi_46) (v := ?v_46) ?ho_46 ?h1_46 ?h2_46 ?h3_46 ?hq_46 (Or.inl ⟨?hw_46, ?hy_46⟩) ?hs_46 ?rest_46; (case h2_46 => kernel_rfl); (case h3_46 => kernel_rfl); (case ho_46 => (simp only [List.getElem?_toArray, List.getElem?_cons_zero, List.getElem?_cons_succ]; rfl)); (case h1_46 => kernel_rfl); (case hq_46 => exact fun _ _ _ h => h); (case hw_46 => rfl); (case hy_46 => (intro w' hSw; (try simp only [S] at hSw); go_simp; (try with_reducible rfl))); (case hs_46 => assumption); (try simp only [Act.put, List.setIfInBounds_toArray, List.set_cons_zero, List.set_cons_succ])
      refine wpAnyH_done (by kernel_rfl) ?_ _
      simp only [w_add, w_and, w_xor]
      obtain ⟨y1, hy1⟩ : ∃ x, ry ⟨va, vb, vc, vd, ve, vf, vg, vh⟩ = x := ⟨_, rfl⟩
      rw [hy1] at HY
      have hy2 : rA + ((va &&& vb) ^^^ (va &&& vc) ^^^ (vb &&& vc)) = y1 := HY.out.symm
      rw [hy2]
      have hbU : Below V.heap.size V (World.drew (V.alloc (.cells #[.int .i64 2, .int .i64 13, .int .i64 22] 3))) := ((Below.refl _ _).alloc (Nat.le_refl _) _).drew
      generalize World.drew (World.alloc V _) = U at *
      clear hS0 hS1 c0 c1 c2 HY hy2
      replace a2 := bBlk hbU (by omega) a2
      replace a4 := bBlk hbU (by omega) a4
      replace a5 := bBlk hbU (by omega) a5
      replace a6 := bBlk hbU (by omega) a6
      replace hB := hB.trans (hbU.mono (by omega))
      have hzU := hbU.size
      clear hbU
      have d0 : U.cell? ⟨g6, 0, none⟩ = some (.int .u32 (va.toNat : Int)) := blk_cell a6 rfl
      have d1 : U.cell? ⟨g6, 1, none⟩ = some (.int .u32 (vb.toNat : Int)) := blk_cell a6 rfl
      have d2 : U.cell? ⟨g6, 2, none⟩ = some (.int .u32 (vc.toNat : Int)) := blk_cell a6 rfl
      have d3 : U.cell? ⟨g6, 3, none⟩ = some (.int .u32 (vd.toNat : Int)) := blk_cell a6 rfl
      have d4 : U.cell? ⟨g6, 4, none⟩ = some (.int .u32 (ve.toNat : Int)) := blk_cell a6 rfl
      have d5 : U.cell? ⟨g6, 5, none⟩ = some (.int .u32 (vf.toNat : Int)) := blk_cell a6 rfl
      have d6 : U.cell? ⟨g6, 6, none⟩ = some (.int .u32 (vg.toNat : Int)) := blk_cell a6 rfl
      have m1 := m_add x1 y1
      have m2 := m_add vd x1
      have hrd : rnd ⟨va, vb, vc, vd, ve, vf, vg, vh⟩ kk ww = ⟨x1 + y1, va, vb, vc, vd + x1, ve, vf, vg⟩ := by unfold rnd; rw [hx1, hy1]
      rw [hrd] at HR
      clear hx1 hy1 hrd
      obtain ⟨n0, hn0⟩ : ∃ x, x1 + y1 = x := ⟨_, rfl⟩
      obtain ⟨n4, hn4⟩ : ∃ x, vd + x1 = x := ⟨_, rfl⟩
      rw [hn0] at HR m1
      rw [hn4] at HR m2
      clear hn0 hn4
      have hnl : (St.list ⟨n0, va, vb, vc, n4, ve, vf, vg⟩).length = 8 := rfl
      obtain ⟨OV, hOV⟩ : ∃ l, (⟨va, vb, vc, vd, ve, vf, vg, vh⟩ : St).list = l := ⟨_, rfl⟩
      have hol : OV.length = 8 := by rw [← hOV]; rfl
      rw [hOV] at a6
      clear hOV
      go_upto_region 9 with (first
        | (refine wpList_store_row rfl 80 (.tmp 6) (.tmp 87) rfl _ (wvs (St.list ⟨n0, va, vb, vc, n4, ve, vf, vg⟩)).toArray rfl rfl _ (wvs OV).toArray a6 (w8_info hnl) (ws_sizes hol hnl) (all_oneCell_toArray (oneCell_wvs _)) ?_)
        | fail)
      generalize hXX : World.setRow _ _ _ = XX
      have b6 : XX.heap[g6]? = some (.cells (wvs (St.list ⟨n0, va, vb, vc, n4, ve, vf, vg⟩)).toArray 80) := by rw [← hXX]; exact setRow_heap _ _ _ _ _ _ a6
      have b2 : XX.heap[w.heap.size]? = some (.cells (wvs M).toArray 80) := by rw [← hXX]; exact (setRow_other _ _ _ _ hd.1).trans a2
      have b4 : XX.heap[w.heap.size + 1]? = some (.cells (wvs z8).toArray 80) := by rw [← hXX]; exact (setRow_other _ _ _ _ hd.2.1).trans a4
      have b5 : XX.heap[g5]? = some (.cells (wvs KT).toArray 100) := by rw [← hXX]; exact (setRow_other _ _ _ _ hd.2.2.1).trans a5
      have hBX : Below w.heap.size w XX := by rw [← hXX]; exact bSetRow hB hd.2.2.2 _
      clear hXX
      go_wp2_with fail
      go_roundw
      case rel => exact ⟨t + 1, by go_num, by omega, b2, b4, b5, by rw [HR.out]; exact b6, hBX⟩
      case measure => simp [intOf]; omega
    · obtain rfl : t = 64 := by omega
      have g1 : ¬ ((64 : Nat) : Int) < 64 := by omega
      have HC2 : Hid (RV = addTo (rnds s WS 64).list M 8) := Lib.hid (by rw [HC.out, plus_list, hM])
      have hvl : (rnds s WS 64).list.length = 8 := St.list_len _
      clear HC
      generalize (rnds s WS 64).list = V at *
      have a6' : wr.heap[g6]? = some (.cells (wvs (addTo V M 0)).toArray 80) := a6
      clear a6 a5
      go_wp2_with fail
      rename World => Wo
      go_loopw [89] (fun i wr => ∃ t : Nat, i = .int .i64 t ∧ t ≤ 8 ∧ wr.heap[w.heap.size]? = some (.cells (wvs M).toArray 80) ∧ wr.heap[w.heap.size + 1]? = some (.cells (wvs z8).toArray 80) ∧ wr.heap[g6]? = some (.cells (wvs (addTo V M t)).toArray 80) ∧ Below w.heap.size w wr) (fun i _ => 8 - (intOf i).toNat)
      case atStart => exact ⟨0, rfl, by omega, a2, a4, a6', hB⟩
      case round =>
        clear a2 a4 a6' hB
        obtain ⟨t, rfl, ht, a2, a4, a6, hB⟩ := hrel
        by_cases hlt : t < 8
        · have g1 : (t : Int) < 8 := by omega
          obtain ⟨x, hx⟩ : ∃ x, V[t]? = some x := ⟨_, List.getElem?_eq_getElem (by omega)⟩
          obtain ⟨y, hy⟩ : ∃ y, M[t]? = some y := ⟨_, List.getElem?_eq_getElem (by omega)⟩
          have c1 := blk_cell a6 (wvs_at ((addTo_at V M (Nat.le_refl t)).trans hx))
          have c2 := blk_cell a2 (wvs_at hy)
          have f1 := blk_frozen a6 t
          have HS : Hid (addTo V M (t + 1) = (addTo V M t).set t (x + y)) := Lib.hid (by rw [addTo]; unfold wAt; rw [hx, hy]; rfl)
          have m1 := m_add x y
          clear hx hy
          go_wp2_with fail
          go_still_tail 8, (by kernel_rfl)
          change wpList _ _ _ _ _ (World.drew _)
          go_wp2
          generalize hX : World.drew (World.setCell _ _ _) = X
          have b6 : X.heap[g6]? = some (.cells (wvs (addTo V M (t + 1))).toArray 80) := by rw [← hX, HS.out, ← wvs_set]; exact blk_set a6 t _
          have b2 : X.heap[w.heap.size]? = some (.cells (wvs M).toArray 80) := by rw [← hX]; exact blk_far (W := wr) a2 _ hd.1
          have b4 : X.heap[w.heap.size + 1]? = some (.cells (wvs z8).toArray 80) := by rw [← hX]; exact blk_far (W := wr) a4 _ hd.2.1
          have hBX : Below w.heap.size w X := by rw [← hX]; exact Below.drew (Below.setCell hB (p := ⟨g6, t, none⟩) hd.2.2.2 _)
          clear hX
          go_wp2_with fail
          go_roundw
          case rel => exact ⟨t + 1, by go_num, by omega, b2, b4, b6, hBX⟩
          case measure => simp [intOf]; omega
        · obtain rfl : t = 8 := by omega
          have hrl : RV.length = 8 := by rw [HC2.out, addTo_len, hvl]
          rw [← HC2.out] at a6
          clear HC2
          go_wp2_with (first
            | (refine wpList_load_row rfl 80 (.tmp 6) rfl _ rfl _ (wvs RV).toArray (0, 0) _ a6 Try.underlying80 rfl (w8_info hrl) ?_)
            | (refine wpList_store_row rfl 80 (.tmp 4) (.tmp 101) rfl _ (wvs RV).toArray rfl rfl _ (wvs z8).toArray a4 (w8_info hrl) (ws_sizes hz8 hrl) (all_oneCell_toArray (oneCell_wvs _)) ?_)
            | fail)
          generalize hX : World.setRow _ _ _ = X
          have b4 : X.heap[w.heap.size + 1]? = some (.cells (wvs RV).toArray 80) := by rw [← hX]; exact setRow_heap _ _ _ _ _ _ a4
          have hBX : Below w.heap.size w X := by rw [← hX]; exact bSetRow hB (Nat.le_succ _) _
          clear hX
          have hld := run_loadVar_row (P := Try.prog) X _ _ 80 _ _ _ b4 Try.underlying80 rfl (w8_info hrl)
          refine bodyPost_ret (by simp [results, Try.results47, Act.put, asAddr, Result.andThen, hld]; try rfl) rfl ?_
          exact Ret.mk (by rw [hRV]) hBX
end Go.Proofs.Ytacchnmoohlcpaa
