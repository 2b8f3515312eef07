/- The walk over sha.turn. -/
import Derived.Test.YtcnbonmpocddmaaShaSch
namespace Go.Proofs.Ytcnbonmpocddmaa
set_option linter.unusedSimpArgs false
set_option linter.unusedVariables false
open Go.RowKit

theorem St.list_len (s : St) : s.list.length = 8 := rfl
def St.vals (s : St) : Array Value := #[wv s.a, wv s.b, wv s.c, wv s.d, wv s.e, wv s.f, wv s.g, wv s.h]
theorem St.vals_eq (s : St) : (wvs s.list).toArray = s.vals := rfl
theorem built8 (a b c d e f g h : W32) : Try.prog.built 60 [(0, wv a), (1, wv b), (2, wv c), (3, wv d), (4, wv e), (5, wv f), (6, wv g), (7, wv h)] = some (St.vals ⟨a, b, c, d, e, f, g, h⟩) := by
  unfold wv St.vals wv
  kernel_rfl
def addTo (V M : List W32) : Nat → List W32
  | 0 => V
  | i + 1 => (addTo V M i).set i (wAt V i + wAt M i)
theorem addTo_len (V M : List W32) (i : Nat) : (addTo V M i).length = V.length := by
  induction i with
  | zero => rfl
  | succ i ih => rw [addTo, List.length_set, ih]
theorem addTo_at (V M : List W32) {i j : Nat} (h : i ≤ j) : (addTo V M i)[j]? = V[j]? := by
  induction i with
  | zero => rfl
  | succ i ih => rw [addTo, List.getElem?_set_ne (by omega), ih (by omega)]
theorem plus_list (s v : St) : (plus s v).list = addTo v.list s.list 8 := rfl
theorem hnot : (if IntKind.u32.signed = true then -1 else IntKind.u32.max) = 4294967295 := by decide
theorem u32_sizeOf (w : World) : (sizeOf 59).run Try.prog w = .ok 1 w := by
  have h : (Try.prog.info? 59).map (·.size) = some 1 := by kernel_rfl
  cases hq : Try.prog.info? 59 with
  | none => rw [hq] at h; cases h
  | some i =>
    rw [hq] at h
    have hs : i.size = 1 := by simpa using h
    simp [sizeOf, typeInfo, hq, hs]
theorem run_index_w {t : TypeId} {n : Nat} (hu : Try.prog.underlying t = some (.array n 59)) {l : List W32} {k : Nat} {x : W32} (hk : k < n) (h : l[k]? = some x) (W : World) :
    (Instr.index t (.agg (wvs l).toArray) (.int .i64 k)).run Try.prog W = .ok (.int .u32 ((x.toNat : Nat) : Int)) W := by
  have h1 : (part 59 (wvs l).toArray k).run Try.prog W = .ok (.int .u32 ((x.toNat : Nat) : Int)) W := run_part_plain W (e := 59) (by kernel_rfl) (wvs_at h)
  have h2 : (0 : Int) ≤ (k : Int) ∧ (k : Int) < (n : Int) := by omega
  have h3 := u32_sizeOf W
  simp [Instr.index, run_underlying hu, asIntOf, h2.1, h2.2, h3, h1]
  intro hh; omega
set_option maxHeartbeats 4000000 in
set_option maxRecDepth 100000 in
theorem turn_any (s : St) {p : List UInt8} (hp : p.length = 64) {B c : Nat} {A : Option Addr} (hc : 64 ≤ c) (hcm : c ≤ maxLen) (w : World) (hB0 : B ≤ w.heap.size) (hs : Sl w B 1 A 64 (bvs p)) :
    Calls Try.prog 32 #[wsv s.list, .slice A 64 c] w (Ret w (wsv (comp s p).list)) := by
  have hk := fun W => consts_any W
  have hsc := fun W (h1 : B ≤ W.heap.size) (h : Sl W B 1 A 64 (bvs p)) => schedule_any hp hc hcm W h1 h
  have hkl := kTab_len
  have hsl := St.list_len s
  have hz8 : z8.length = 8 := rfl
  have hrun := fun W => run_zero w8Z W
  unfold wsv at *
  go_enter Try.func32, Try.ntmps32
  obtain ⟨M, hM⟩ : ∃ M, s.list = M := ⟨_, rfl⟩
  rw [hM] at hsl ⊢
  go_wp2_with (first
    | (refine wpList_new rfl w8Z rfl ?_)
    | (refine wpList_new rfl w64Z rfl ?_)
    | fail)
  have a2 : ((w.alloc (.cells (wvs M).toArray 60)).alloc (.cells (wvs z8).toArray 60)).heap[w.heap.size]? = some (.cells (wvs M).toArray 60) := heap_alloc_fst _ _ _
  have a4 : ((w.alloc (.cells (wvs M).toArray 60)).alloc (.cells (wvs z8).toArray 60)).heap[w.heap.size + 1]? = some (.cells (wvs z8).toArray 60) := heap_alloc_two _ _ _
  have hB0' : Below w.heap.size w ((w.alloc (.cells (wvs M).toArray 60)).alloc (.cells (wvs z8).toArray 60)) := ((Below.refl _ _).alloc (Nat.le_refl _) _).alloc (by simp) _
  generalize World.alloc (World.alloc w _) _ = W0 at *
  refine (hk _).mono ?_
  rintro e W1 ⟨rfl, hb1⟩
  have hz0 : w.heap.size + 1 < W0.heap.size := (Array.getElem?_eq_some_iff.1 a4).1
  have hz1 := hb1.size
  replace a2 := bBlk hb1 (by omega) a2
  replace a4 := bBlk hb1 (by omega) a4
  have hB1 := hB0'.trans (hb1.mono (by omega))
  clear hB0' hb1 hk
  obtain ⟨KT, hKT⟩ : ∃ l, kTab = l := ⟨_, rfl⟩
  rw [hKT] at hkl ⊢
  go_upto_region 2 with (first
    | (refine wpList_new rfl w64Z rfl ?_)
    | (refine wpList_store_row rfl 71 (.tmp 5) (.tmp 12) rfl _ (wvs KT).toArray rfl rfl _ (wvs z64).toArray (heap_alloc_new _ _) (w64_info hkl) (ws_sizes rfl hkl) (all_oneCell_toArray (oneCell_wvs _)) ?_)
    | fail)
  generalize hX : World.setRow _ _ _ = X
  have a5 : X.heap[W1.heap.size]? = some (.cells (wvs KT).toArray 71) := by rw [← hX]; exact setRow_heap _ _ _ _ _ _ (heap_alloc_new _ _)
  have hbX : Below W1.heap.size W1 X := by rw [← hX]; exact bSetRow ((Below.refl _ _).alloc (Nat.le_refl _) _) (Nat.le_refl _) _
  replace a2 := bBlk hbX (by omega) a2
  replace a4 := bBlk hbX (by omega) a4
  have hBX := hB1.trans (hbX.mono (by omega))
  have hz2 : W1.heap.size < X.heap.size := (Array.getElem?_eq_some_iff.1 a5).1
  clear hX hbX hB1
  go_upto_region 3 with (first
    | (refine wpList_new rfl w8Z rfl ?_)
    | (refine wpList_load_row rfl 60 (.tmp 2) rfl _ rfl _ (wvs M).toArray (0, 0) _ a2 Try.underlying60 rfl (w8_info hsl) ?_)
    | (refine wpList_store_row rfl 60 (.tmp 6) (.tmp 13) rfl _ (wvs M).toArray rfl rfl _ (wvs z8).toArray (heap_alloc_new _ _) (w8_info hsl) (ws_sizes hz8 hsl) (all_oneCell_toArray (oneCell_wvs _)) ?_)
    | fail)
  generalize hY : World.setRow _ _ _ = Y
  have a6 : Y.heap[X.heap.size]? = some (.cells (wvs M).toArray 60) := by rw [← hY]; exact setRow_heap _ _ _ _ _ _ (heap_alloc_new _ _)
  have hbY : Below X.heap.size X Y := by rw [← hY]; exact bSetRow ((Below.refl _ _).alloc (Nat.le_refl _) _) (Nat.le_refl _) _
  replace a2 := bBlk hbY (by omega) a2
  replace a4 := bBlk hbY (by omega) a4
  replace a5 := bBlk hbY (by omega) a5
  have hBY := hBX.trans (hbY.mono (by omega))
  have hz3 : X.heap.size < Y.heap.size := (Array.getElem?_eq_some_iff.1 a6).1
  clear hY hbY hBX
  have hscY := hsc Y (by omega) (hs.below (hBY.mono hB0))
  go_wp2_with fail
  refine hscY.mono ?_
  rintro e Z ⟨rfl, hb2⟩
  replace a2 := bBlk hb2 (by omega) a2
  replace a4 := bBlk hb2 (by omega) a4
  replace a5 := bBlk hb2 (by omega) a5
  replace a6 := bBlk hb2 (by omega) a6
  have hBZ := hBY.trans (hb2.mono (by omega))
  have hz4 := hb2.size
  clear hscY hsc hb2 hBY hs
  have hwl := sch_len p 64
  have HC : Hid ((comp s p).list = (plus s (rnds s (sch p 64) 64)).list) := Lib.hid rfl
  obtain ⟨WS, hWS⟩ : ∃ l, sch p 64 = l := ⟨_, rfl⟩
  rw [hWS] at hwl HC ⊢
  obtain ⟨RV, hRV⟩ : ∃ v, (comp s p).list = v := ⟨_, rfl⟩
  rw [hRV] at HC ⊢
  clear hWS hp hcm hc hB0
  have a6' : Z.heap[X.heap.size]? = some (.cells (wvs (rnds s WS 0).list).toArray 60) := by show _ = some (Obj.cells (wvs s.list).toArray _ (0, 0)); rw [hM]; exact a6
  have hd : w.heap.size ≠ X.heap.size ∧ w.heap.size + 1 ≠ X.heap.size ∧ W1.heap.size ≠ X.heap.size ∧ w.heap.size ≤ X.heap.size := by omega
  obtain ⟨g6, hg6⟩ : ∃ g, X.heap.size = g := ⟨_, rfl⟩
  obtain ⟨g5, hg5⟩ : ∃ g, W1.heap.size = g := ⟨_, rfl⟩
  rw [hg6] at a6' hd ⊢
  rw [hg5] at a5 hd ⊢
  clear a6 hz0 hz1 hz2 hz3 hz4 hg6 hg5
  go_wp2_with fail
  go_loopw [16] (fun i wr => ∃ t : Nat, i = .int .i64 t ∧ t ≤ 64 ∧ wr.heap[w.heap.size]? = some (.cells (wvs M).toArray 60) ∧ wr.heap[w.heap.size + 1]? = some (.cells (wvs z8).toArray 60) ∧ wr.heap[g5]? = some (.cells (wvs KT).toArray 71) ∧ wr.heap[g6]? = some (.cells (wvs (rnds s WS t).list).toArray 60) ∧ Below w.heap.size w wr) (fun i _ => 64 - (intOf i).toNat)
  case atStart => exact ⟨0, rfl, by omega, a2, a4, a5, a6', hBZ⟩
  case round =>
    clear a2 a4 a5 a6' hBZ
    obtain ⟨t, rfl, ht, a2, a4, a5, a6, hB⟩ := hrel
    by_cases hlt : t < 64
    · have g1 : (t : Int) < 64 := by omega
      obtain ⟨ww, hww⟩ : ∃ x, WS[t]? = some x := ⟨_, List.getElem?_eq_getElem (by omega)⟩
      obtain ⟨kk, hkk⟩ : ∃ x, KT[t]? = some x := ⟨_, List.getElem?_eq_getElem (by omega)⟩
      have HR : Hid (rnds s WS (t + 1) = rnd (rnds s WS t) kk ww) := Lib.hid (by rw [rnds, hKT]; unfold wAt; rw [hww, hkk]; rfl)
      obtain ⟨v, hv⟩ : ∃ v, rnds s WS t = v := ⟨_, rfl⟩
      rw [hv] at HR a6
      obtain ⟨va, vb, vc, vd, ve, vf, vg, vh⟩ := v
      have kc := blk_cell a5 (wvs_at hkk)
      have wc := fun W => run_index_w (t := 71) (n := 64) Try.underlying71 hlt hww W
      have c0 := blk_cell (k := 0) a6 rfl
      have c1 := blk_cell (k := 1) a6 rfl
      have c2 := blk_cell (k := 2) a6 rfl
      have c3 := blk_cell (k := 3) a6 rfl
      have c4 := blk_cell (k := 4) a6 rfl
      have c5 := blk_cell (k := 5) a6 rfl
      have c6 := blk_cell (k := 6) a6 rfl
      have c7 := blk_cell (k := 7) a6 rfl
      unfold wv at c0 c1 c2 c3 c4 c5 c6 c7
      clear hv hww hkk
      have hz1 : g6 < wr.heap.size := (Array.getElem?_eq_some_iff.1 a6).1
      have hz2 : g5 < wr.heap.size := (Array.getElem?_eq_some_iff.1 a5).1
      have hzr := hB.size
      obtain ⟨rE, hrE⟩ : ∃ r, ror ve 6 ^^^ ror ve 11 ^^^ ror ve 25 = r := ⟨_, rfl⟩
      obtain ⟨rA, hrA⟩ : ∃ r, ror va 2 ^^^ ror va 13 ^^^ ror va 22 = r := ⟨_, rfl⟩
      have hE := fun W g h => turned3 ve 6 11 25 (by omega) (by omega) (by omega) W g h
      have hA := fun W g h => turned3 va 2 13 22 (by omega) (by omega) (by omega) W g h
      rw [hrE] at hE
      rw [hrA] at hA
      have HX : Hid (rx ⟨va, vb, vc, vd, ve, vf, vg, vh⟩ kk ww = vh + rE + cho ve vf vg + kk + ww) := Lib.hid (by unfold rx big1; rw [hrE])
      have HY : Hid (ry ⟨va, vb, vc, vd, ve, vf, vg, vh⟩ = rA + most va vb vc) := Lib.hid (by unfold ry big0; rw [hrA])
      clear hrE hrA
      let S : World → Prop := fun w' => w'.cell? ⟨g6, 4, none⟩ = some (.int .u32 (ve.toNat : Int)) ∧ w'.cell? ⟨g6, 5, none⟩ = some (.int .u32 (vf.toNat : Int)) ∧ w'.cell? ⟨g6, 6, none⟩ = some (.int .u32 (vg.toNat : Int)) ∧ w'.cell? ⟨g6, 7, none⟩ = some (.int .u32 (vh.toNat : Int)) ∧ w'.cell? ⟨g5, t, none⟩ = some (.int .u32 (kk.toNat : Int))
      have hS0 : S wr.drew := ⟨c4, c5, c6, c7, kc⟩
      have hS1 : ∀ o : Obj, S (wr.drew.alloc o) := fun o => ⟨(World.cell?_alloc_lt _ _ _ hz1).trans c4, (World.cell?_alloc_lt _ _ _ hz1).trans c5, (World.cell?_alloc_lt _ _ _ hz1).trans c6, (World.cell?_alloc_lt _ _ _ hz1).trans c7, (World.cell?_alloc_lt _ _ _ hz2).trans kc⟩
      go_upto_region 6 with (fail)
      refine wp_region_held (S := S) (by kernel_rfl) ?_
      change wpAnyH _ _ _ _ S _ _ _ wr.drew
      refine wpAnyH_take (i := 0) (oi := ?oi_58) (v := ?v_58) ?ho_58 ?h1_58 ?h2_58 ?h3_58 ?hq_58 (Or.inl ⟨?hw_58, ?hy_58⟩) ?hs_58 ?rest_58; (case h2_58 => kernel_rfl); (case h3_58 => kernel_rfl); (case ho_58 => (simp only [List.getElem?_toArray, List.getElem?_cons_zero, List.getElem?_cons_succ]; rfl)); (case h1_58 => kernel_rfl); (case hq_58 => exact fun _ _ _ h => h); (case hw_58 => rfl); (case hy_58 => (intro w' hSw; (try simp only [S] at hSw); go_simp; (try with_reducible rfl))); (case hs_58 => assumption); (try simp only [Act.put, List.setIfInBounds_toArray, List.set_cons_zero, List.set_cons_succ])
      refine wpAnyH_take (i := 1) (oi := ?oi_59) (v := ?v_59) ?ho_59 ?h1_59 ?h2_59 ?h3_59 ?hq_59 (Or.inl ⟨?hw_59, ?hy_59⟩) ?hs_59 ?rest_59; (case h2_59 => kernel_rfl); (case h3_59 => kernel_rfl); (case ho_59 => (simp only [List.getElem?_toArray, List.getElem?_cons_zero, List.getElem?_cons_succ]; rfl)); (case h1_59 => kernel_rfl); (case hq_59 => exact fun _ _ _ h => h); (case hw_59 => rfl); (case hy_59 => (intro w' hSw; (try simp only [S] at hSw); go_simp; (try with_reducible rfl))); (case hs_59 => assumption); (try simp only [Act.put, List.setIfInBounds_toArray, List.set_cons_zero, List.set_cons_succ])
      refine wpAnyH_take (i := 2) (oi := ?oi_60) (v := ?v_60) ?ho_60 ?h1_60 ?h2_60 ?h3_60 ?hq_60 (Or.inl ⟨?hw_60, ?hy_60⟩) ?hs_60 ?rest_60; (case h2_60 => kernel_rfl); (case h3_60 => kernel_rfl); (case ho_60 => (simp only [List.getElem?_toArray, List.getElem?_cons_zero, List.getElem?_cons_succ]; rfl)); (case h1_60 => kernel_rfl); (case hq_60 => exact fun _ _ _ h => h); (case hw_60 => rfl); (case hy_60 => (intro w' hSw; (try simp only [S] at hSw); go_simp; (try with_reducible rfl))); (case hs_60 => assumption); (try simp only [Act.put, List.setIfInBounds_toArray, List.set_cons_zero, List.set_cons_succ])
      refine wpAnyH_take (i := 3) (oi := ?oi_61) (v := ?v_61) ?ho_61 ?h1_61 ?h2_61 ?h3_61 ?hq_61 (Or.inl ⟨?hw_61, ?hy_61⟩) ?hs_61 ?rest_61; (case h2_61 => kernel_rfl); (case h3_61 => kernel_rfl); (case ho_61 => (simp only [List.getElem?_toArray, List.getElem?_cons_zero, List.getElem?_cons_succ]; rfl)); (case h1_61 => kernel_rfl); (case hq_61 => exact fun _ _ _ h => h); (case hw_61 => rfl); (case hy_61 => (intro w' hSw; (try simp only [S] at hSw); go_simp; (try with_reducible rfl))); (case hs_61 => assumption); (try simp only [Act.put, List.setIfInBounds_toArray, List.set_cons_zero, List.set_cons_succ])
      refine wpAnyH_take (i := 7) (oi := ?oi_62) (v := ?v_62) ?ho_62 ?h1_62 ?h2_62 ?h3_62 ?hq_62 (Or.inl ⟨?hw_62, ?hy_62⟩) ?hs_62 ?rest_62; (case h2_62 => kernel_rfl); (case h3_62 => kernel_rfl); (case ho_62 => (simp only [List.getElem?_toArray, List.getElem?_cons_zero, List.getElem?_cons_succ]; rfl)); (case h1_62 => kernel_rfl); (case hq_62 => exact fun _ _ _ h => h); (case hw_62 => rfl); (case hy_62 => (intro w' hSw; (try simp only [S] at hSw); go_simp; (try with_reducible rfl))); (case hs_62 => assumption); (try simp only [Act.put, List.setIfInBounds_toArray, List.set_cons_zero, List.set_cons_succ])
      refine wpAnyH_take (i := 8) (oi := ?oi_63) (v := ?v_63) ?ho_63 ?h1_63 ?h2_63 ?h3_63 ?hq_63 (Or.inl ⟨?hw_63, ?hy_63⟩) ?hs_63 ?rest_63; (case h2_63 => kernel_rfl); (case h3_63 => kernel_rfl); (case ho_63 => (simp only [List.getElem?_toArray, List.getElem?_cons_zero, List.getElem?_cons_succ]; rfl)); (case h1_63 => kernel_rfl); (case hq_63 => exact fun _ _ _ h => h); (case hw_63 => rfl); (case hy_63 => (intro w' hSw; (try simp only [S] at hSw); go_simp; (try with_reducible rfl))); (case hs_63 => assumption); (try simp only [Act.put, List.setIfInBounds_toArray, List.set_cons_zero, List.set_cons_succ])
      refine wpAnyH_take (i := 9) (oi := ?oi_64) (v := ?v_64) ?ho_64 ?h1_64 ?h2_64 ?h3_64 ?hq_64 (Or.inl ⟨?hw_64, ?hy_64⟩) ?hs_64 ?rest_64; (case h2_64 => kernel_rfl); (case h3_64 => kernel_rfl); (case ho_64 => (simp only [List.getElem?_toArray, List.getElem?_cons_zero, List.getElem?_cons_succ]; rfl)); (case h1_64 => kernel_rfl); (case hq_64 => exact fun _ _ _ h => h); (case hw_64 => rfl); (case hy_64 => (intro w' hSw; (try simp only [S] at hSw); go_simp; (try with_reducible rfl))); (case hs_64 => assumption); (try simp only [Act.put, List.setIfInBounds_toArray, List.set_cons_zero, List.set_cons_succ])
      refine wpAnyH_take (i := 10) (oi := ?oi_65) (v := ?v_65) ?ho_65 ?h1_65 ?h2_65 ?h3_65 ?hq_65 (Or.inl ⟨?hw_65, ?hy_65⟩) ?hs_65 ?rest_65; (case h2_65 => kernel_rfl); (case h3_65 => kernel_rfl); (case ho_65 => (simp only [List.getElem?_toArray, List.getElem?_cons_zero, List.getElem?_cons_succ]; rfl)); (case h1_65 => kernel_rfl); (case hq_65 => exact fun _ _ _ h => h); (case hw_65 => rfl); (case hy_65 => (intro w' hSw; (try simp only [S] at hSw); go_simp; (try with_reducible rfl))); (case hs_65 => assumption); (try simp only [Act.put, List.setIfInBounds_toArray, List.set_cons_zero, List.set_cons_succ])
      refine wpAnyH_take (i := 11) (oi := ?oi_66) (v := ?v_66) ?ho_66 ?h1_66 ?h2_66 ?h3_66 ?hq_66 (Or.inl ⟨?hw_66, ?hy_66⟩) ?hs_66 ?rest_66; (case h2_66 => kernel_rfl); (case h3_66 => kernel_rfl); (case ho_66 => (simp only [List.getElem?_toArray, List.getElem?_cons_zero, List.getElem?_cons_succ]; rfl)); (case h1_66 => kernel_rfl); (case hq_66 => exact fun _ _ _ h => h); (case hw_66 => rfl); (case hy_66 => (intro w' hSw; (try simp only [S] at hSw); go_simp; (try with_reducible rfl))); (case hs_66 => assumption); (try simp only [Act.put, List.setIfInBounds_toArray, List.set_cons_zero, List.set_cons_succ])
      refine wpAnyH_take (i := 12) (oi := ?oi_67) (v := ?v_67) ?ho_67 ?h1_67 ?h2_67 ?h3_67 ?hq_67 (Or.inl ⟨?hw_67, ?hy_67⟩) ?hs_67 ?rest_67; (case h2_67 => kernel_rfl); (case h3_67 => kernel_rfl); (case ho_67 => (simp only [List.getElem?_toArray, List.getElem?_cons_zero, List.getElem?_cons_succ]; rfl)); (case h1_67 => kernel_rfl); (case hq_67 => exact fun _ _ _ h => h); (case hw_67 => rfl); (case hy_67 => (intro w' hSw; (try simp only [S] at hSw); go_simp; (try with_reducible rfl))); (case hs_67 => assumption); (try simp only [Act.put, List.setIfInBounds_toArray, List.set_cons_zero, List.set_cons_succ])
      refine wpAnyH_take (i := 13) (oi := ?oi_68) (v := ?v_68) ?ho_68 ?h1_68 ?h2_68 ?h3_68 ?hq_68 (Or.inl ⟨?hw_68, ?hy_68⟩) ?hs_68 ?rest_68; (case h2_68 => kernel_rfl); (case h3_68 => kernel_rfl); (case ho_68 => (simp only [List.getElem?_toArray, List.getElem?_cons_zero, List.getElem?_cons_succ]; rfl)); (case h1_68 => kernel_rfl); (case hq_68 => exact fun _ _ _ h => h); (case hw_68 => rfl); (case hy_68 => (intro w' hSw; (try simp only [S] at hSw); go_simp; (try with_reducible rfl))); (case hs_68 => assumption); (try simp only [Act.put, List.setIfInBounds_toArray, List.set_cons_zero, List.set_cons_succ])
      refine wpAnyH_take (i := 14) (oi := ?oi_69) (v := ?v_69) ?ho_69 ?h1_69 ?h2_69 ?h3_69 ?hq_69 (Or.inl ⟨?hw_69, ?hy_69⟩) ?hs_69 ?rest_69; (case h2_69 => kernel_rfl); (case h3_69 => kernel_rfl); (case ho_69 => (simp only [List.getElem?_toArray, List.getElem?_cons_zero, List.getElem?_cons_succ]; rfl)); (case h1_69 => kernel_rfl); (case hq_69 => exact fun _ _ _ h => h); (case hw_69 => rfl); (case hy_69 => (intro w' hSw; (try simp only [S] at hSw); go_simp; (try with_reducible rfl))); (case hs_69 => assumption); (try simp only [Act.put, List.setIfInBounds_toArray, List.set_cons_zero, List.set_cons_succ])
      refine wpAnyH_take (i := 15) (oi := ?oi_70) (v := ?v_70) ?ho_70 ?h1_70 ?h2_70 ?h3_70 ?hq_70 (Or.inl ⟨?hw_70, ?hy_70⟩) ?hs_70 ?rest_70; (case h2_70 => kernel_rfl); (case h3_70 => kernel_rfl); (case ho_70 => (simp only [List.getElem?_toArray, List.getElem?_cons_zero, List.getElem?_cons_succ]; rfl)); (case h1_70 => kernel_rfl); (case hq_70 => exact fun _ _ _ h => h); (case hw_70 => rfl); (case hy_70 => (intro w' hSw; (try simp only [S] at hSw); go_simp; (try with_reducible rfl))); (case hs_70 => assumption); (try simp only [Act.put, List.setIfInBounds_toArray, List.set_cons_zero, List.set_cons_succ])
      refine wpAnyH_take (i := 16) (oi := ?oi_71) (v := ?v_71) ?ho_71 ?h1_71 ?h2_71 ?h3_71 ?hq_71 (Or.inl ⟨?hw_71, ?hy_71⟩) ?hs_71 ?rest_71; (case h2_71 => kernel_rfl); (case h3_71 => kernel_rfl); (case ho_71 => (simp only [List.getElem?_toArray, List.getElem?_cons_zero, List.getElem?_cons_succ]; rfl)); (case h1_71 => kernel_rfl); (case hq_71 => exact fun _ _ _ h => h); (case hw_71 => rfl); (case hy_71 => (intro w' hSw; (try simp only [S] at hSw); go_simp; (try with_reducible rfl))); (case hs_71 => assumption); (try simp only [Act.put, List.setIfInBounds_toArray, List.set_cons_zero, List.set_cons_succ])
      refine wpAnyH_take (i := 17) (oi := ?oi_72) (v := ?v_72) ?ho_72 ?h1_72 ?h2_72 ?h3_72 ?hq_72 (Or.inl ⟨?hw_72, ?hy_72⟩) ?hs_72 ?rest_72; (case h2_72 => kernel_rfl); (case h3_72 => kernel_rfl); (case ho_72 => (simp only [List.getElem?_toArray, List.getElem?_cons_zero, List.getElem?_cons_succ]; rfl)); (case h1_72 => kernel_rfl); (case hq_72 => exact fun _ _ _ h => h); (case hw_72 => rfl); (case hy_72 => (intro w' hSw; (try simp only [S] at hSw); go_simp; (try with_reducible rfl))); (case hs_72 => assumption); (try simp only [Act.put, List.setIfInBounds_toArray, List.set_cons_zero, List.set_cons_succ])
      refine wpAnyH_take (i := 18) (oi := ?oi_73) (v := ?v_73) ?ho_73 ?h1_73 ?h2_73 ?h3_73 ?hq_73 (Or.inl ⟨?hw_73, ?hy_73⟩) ?hs_73 ?rest_73; (case h2_73 => kernel_rfl); (case h3_73 => kernel_rfl); (case ho_73 => (simp only [List.getElem?_toArray, List.getElem?_cons_zero, List.getElem?_cons_succ]; rfl)); (case h1_73 => kernel_rfl); (case hq_73 => exact fun _ _ _ h => h); (case hw_73 => rfl); (case hy_73 => (intro w' hSw; (try simp only [S] at hSw); go_simp; (try with_reducible rfl))); (case hs_73 => assumption); (try simp only [Act.put, List.setIfInBounds_toArray, List.set_cons_zero, List.set_cons_succ])
      refine wpAnyH_take (i := 20) (oi := ?oi_74) (v := ?v_74) ?ho_74 ?h1_74 ?h2_74 ?h3_74 ?hq_74 (Or.inl ⟨?hw_74, ?hy_74⟩) ?hs_74 ?rest_74; (case h2_74 => kernel_rfl); (case h3_74 => kernel_rfl); (case ho_74 => (simp only [List.getElem?_toArray, List.getElem?_cons_zero, List.getElem?_cons_succ]; rfl)); (case h1_74 => kernel_rfl); (case hq_74 => exact fun _ _ _ h => h); (case hw_74 => rfl); (case hy_74 => (intro w' hSw; (try simp only [S] at hSw); go_simp; (try with_reducible rfl))); (case hs_74 => assumption); (try simp only [Act.put, List.setIfInBounds_toArray, List.set_cons_zero, List.set_cons_succ])
      refine wpAnyH_take (i := 21) (oi := ?oi_75) (v := ?v_75) ?ho_75 ?h1_75 ?h2_75 ?h3_75 ?hq_75 (Or.inl ⟨?hw_75, ?hy_75⟩) ?hs_75 ?rest_75; (case h2_75 => kernel_rfl); (case h3_75 => kernel_rfl); (case ho_75 => (simp only [List.getElem?_toArray, List.getElem?_cons_zero, List.getElem?_cons_succ]; rfl)); (case h1_75 => kernel_rfl); (case hq_75 => exact fun _ _ _ h => h); (case hw_75 => rfl); (case hy_75 => (intro w' hSw; (try simp only [S] at hSw); go_simp; (try with_reducible rfl))); (case hs_75 => assumption); (try simp only [Act.put, List.setIfInBounds_toArray, List.set_cons_zero, List.set_cons_succ])
      refine wpAnyH_take (i := 22) (oi := ?oi_76) (v := ?v_76) ?ho_76 ?h1_76 ?h2_76 ?h3_76 ?hq_76 (Or.inl ⟨?hw_76, ?hy_76⟩) ?hs_76 ?rest_76; (case h2_76 => kernel_rfl); (case h3_76 => kernel_rfl); (case ho_76 => (simp only [List.getElem?_toArray, List.getElem?_cons_zero, List.getElem?_cons_succ]; rfl)); (case h1_76 => kernel_rfl); (case hq_76 => exact fun _ _ _ h => h); (case hw_76 => rfl); (case hy_76 => (intro w' hSw; (try simp only [S] at hSw); go_simp; (try with_reducible rfl))); (case hs_76 => assumption); (try simp only [Act.put, List.setIfInBounds_toArray, List.set_cons_zero, List.set_cons_succ])
      refine wpAnyH_take (i := 24) (oi := ?oi_77) (v := ?v_77) ?ho_77 ?h1_77 ?h2_77 ?h3_77 ?hq_77 (Or.inl ⟨?hw_77, ?hy_77⟩) ?hs_77 ?rest_77; (case h2_77 => kernel_rfl); (case h3_77 => kernel_rfl); (case ho_77 => (simp only [List.getElem?_toArray, List.getElem?_cons_zero, List.getElem?_cons_succ]; rfl)); (case h1_77 => kernel_rfl); (case hq_77 => exact fun _ _ _ h => h); (case hw_77 => rfl); (case hy_77 => (intro w' hSw; (try simp only [S] at hSw); go_simp; (try with_reducible rfl))); (case hs_77 => assumption); (try simp only [Act.put, List.setIfInBounds_toArray, List.set_cons_zero, List.set_cons_succ])
      refine wpAnyH_ready (rs := [4]) (by kernel_rfl) (by simp) (AllReadyH.cons (o := ?oo4_104) ?hoo4_104 (fun K hK => ?steponly104) AllReadyH.nil); (case hoo4_104 => (simp only [List.getElem?_toArray, List.getElem?_cons_zero, List.getElem?_cons_succ]; rfl))
      go_simp
      refine hK.out _ _ (hS1 _) (fun _ => ?_)
      clear hK K
      (try simp only [Act.put, List.setIfInBounds_toArray, List.set_cons_zero, List.set_cons_succ])
      refine wpAnyH_ready (rs := [5]) (by kernel_rfl) (by simp) (AllReadyH.cons (o := ?oo5_105) ?hoo5_105 (fun K hK => ?steponly105) AllReadyH.nil); (case hoo5_105 => (simp only [List.getElem?_toArray, List.getElem?_cons_zero, List.getElem?_cons_succ]; rfl))
      go_simp
      refine Calls.mono (hE _ _ ?_) ?_
      · exact heap_alloc_new wr _
      rintro e _ ⟨rfl, rfl⟩
      refine hK.out _ _ (hS1 _) (fun _ => ?_)
      clear hK K
      (try simp only [Act.put, List.setIfInBounds_toArray, List.set_cons_zero, List.set_cons_succ])
      refine wpAnyH_take (i := 6) (oi := ?oi_78) (v := ?v_78) ?ho_78 ?h1_78 ?h2_78 ?h3_78 ?hq_78 (Or.inl ⟨?hw_78, ?hy_78⟩) ?hs_78 ?rest_78; (case h2_78 => kernel_rfl); (case h3_78 => kernel_rfl); (case ho_78 => (simp only [List.getElem?_toArray, List.getElem?_cons_zero, List.getElem?_cons_succ]; rfl)); (case h1_78 => kernel_rfl); (case hq_78 => exact fun _ _ _ h => h); (case hw_78 => rfl); (case hy_78 => (intro w' hSw; (try simp only [S] at hSw); go_simp; (try with_reducible rfl))); (case hs_78 => assumption); (try simp only [Act.put, List.setIfInBounds_toArray, List.set_cons_zero, List.set_cons_succ])
      refine wpAnyH_take (i := 19) (oi := ?oi_79) (v := ?v_79) ?ho_79 ?h1_79 ?h2_79 ?h3_79 ?hq_79 (Or.inl ⟨?hw_79, ?hy_79⟩) ?hs_79 ?rest_79; (case h2_79 => kernel_rfl); (case h3_79 => kernel_rfl); (case ho_79 => (simp only [List.getElem?_toArray, List.getElem?_cons_zero, List.getElem?_cons_succ]; rfl)); (case h1_79 => kernel_rfl); (case hq_79 => exact fun _ _ _ h => h); (case hw_79 => rfl); (case hy_79 => (intro w' hSw; (try simp only [S] at hSw); go_simp; (try with_reducible rfl))); (case hs_79 => assumption); (try simp only [Act.put, List.setIfInBounds_toArray, List.set_cons_zero, List.set_cons_succ])
      refine wpAnyH_take (i := 23) (oi := ?oi_80) (v := ?v_80) ?ho_80 ?h1_80 ?h2_80 ?h3_80 ?hq_80 (Or.inl ⟨?hw_80, ?hy_80⟩) ?hs_80 ?rest_80; (case h2_80 => kernel_rfl); (case h3_80 => kernel_rfl); (case ho_80 => (simp only [List.getElem?_toArray, List.getElem?_cons_zero, List.getElem?_cons_succ]; rfl)); (case h1_80 => kernel_rfl); (case hq_80 => exact fun _ _ _ h => h); (case hw_80 => rfl); (case hy_80 => (intro w' hSw; (try simp only [S] at hSw); go_simp; (try with_reducible rfl))); (case hs_80 => assumption); (try simp only [Act.put, List.setIfInBounds_toArray, List.set_cons_zero, List.set_cons_succ])
      refine wpAnyH_take (i := 25) (oi := ?oi_81) (v := ?v_81) ?ho_81 ?h1_81 ?h2_81 ?h3_81 ?hq_81 (Or.inl ⟨?hw_81, ?hy_81⟩) ?hs_81 ?rest_81; (case h2_81 => kernel_rfl); (case h3_81 => kernel_rfl); (case ho_81 => (simp only [List.getElem?_toArray, List.getElem?_cons_zero, List.getElem?_cons_succ]; rfl)); (case h1_81 => kernel_rfl); (case hq_81 => exact fun _ _ _ h => h); (case hw_81 => rfl); (case hy_81 => (intro w' hSw; (try simp only [S] at hSw); go_simp; (try with_reducible rfl))); (case hs_81 => assumption); (try simp only [Act.put, List.setIfInBounds_toArray, List.set_cons_zero, List.set_cons_succ])
      refine wpAnyH_take (i := 26) (oi := ?oi_82) (v := ?v_82) ?ho_82 ?h1_82 ?h2_82 ?h3_82 ?hq_82 (Or.inl ⟨?hw_82, ?hy_82⟩) ?hs_82 ?rest_82; (case h2_82 => kernel_rfl); (case h3_82 => kernel_rfl); (case ho_82 => (simp only [List.getElem?_toArray, List.getElem?_cons_zero, List.getElem?_cons_succ]; rfl)); (case h1_82 => kernel_rfl); (case hq_82 => exact fun _ _ _ h => h); (case hw_82 => rfl); (case hy_82 => (intro w' hSw; (try simp only [S] at hSw); go_simp; (try with_reducible rfl))); (case hs_82 => assumption); (try simp only [Act.put, List.setIfInBounds_toArray, List.set_cons_zero, List.set_cons_succ])
      refine wpAnyH_done (by kernel_rfl) ?_ _
      simp only [hnot, w_not, w_add, w_and, w_xor]
      obtain ⟨x1, hx1⟩ : ∃ x, rx ⟨va, vb, vc, vd, ve, vf, vg, vh⟩ kk ww = x := ⟨_, rfl⟩
      rw [hx1] at HX
      have hx2 : vh + rE + ((ve &&& vf) ^^^ (~~~ve &&& vg)) + kk + ww = x1 := HX.out.symm
      rw [hx2]
      have hbV : Below wr.heap.size wr (World.drew (wr.alloc (.cells #[.int .i64 6, .int .i64 11, .int .i64 25] 3))) := ((Below.refl _ _).alloc (Nat.le_refl _) _).drew
      generalize World.drew (World.alloc wr _) = V at *
      clear hS0 hS1 c4 c5 c6 c7 kc HX hx2
      replace a2 := bBlk hbV (by omega) a2
      replace a4 := bBlk hbV (by omega) a4
      replace a5 := bBlk hbV (by omega) a5
      replace a6 := bBlk hbV (by omega) a6
      replace hB := hB.trans (hbV.mono (by omega))
      have hzV := hbV.size
      clear hbV c0 c1 c2 c3
      have c0 := blk_cell (k := 0) a6 rfl
      have c1 := blk_cell (k := 1) a6 rfl
      have c2 := blk_cell (k := 2) a6 rfl
      unfold wv at c0 c1 c2
      let S : World → Prop := fun w' => w'.cell? ⟨g6, 0, none⟩ = some (.int .u32 (va.toNat : Int)) ∧ w'.cell? ⟨g6, 1, none⟩ = some (.int .u32 (vb.toNat : Int)) ∧ w'.cell? ⟨g6, 2, none⟩ = some (.int .u32 (vc.toNat : Int))
      have hS0 : S V.drew := ⟨c0, c1, c2⟩
      have hS1 : ∀ o : Obj, S (V.drew.alloc o) := fun o => ⟨(World.cell?_alloc_lt _ _ _ (show g6 < V.heap.size by omega)).trans c0, (World.cell?_alloc_lt _ _ _ (show g6 < V.heap.size by omega)).trans c1, (World.cell?_alloc_lt _ _ _ (show g6 < V.heap.size by omega)).trans c2⟩
      go_upto_region 7 with (fail)
      refine wp_region_held (S := S) (by kernel_rfl) ?_
      change wpAnyH _ _ _ _ S _ _ _ V.drew
      refine wpAnyH_take (i := 0) (oi := ?oi_83) (v := ?v_83) ?ho_83 ?h1_83 ?h2_83 ?h3_83 ?hq_83 (Or.inl ⟨?hw_83, ?hy_83⟩) ?hs_83 ?rest_83; (case h2_83 => kernel_rfl); (case h3_83 => kernel_rfl); (case ho_83 => (simp only [List.getElem?_toArray, List.getElem?_cons_zero, List.getElem?_cons_succ]; rfl)); (case h1_83 => kernel_rfl); (case hq_83 => exact fun _ _ _ h => h); (case hw_83 => rfl); (case hy_83 => (intro w' hSw; (try simp only [S] at hSw); go_simp; (try with_reducible rfl))); (case hs_83 => assumption); (try simp only [Act.put, List.setIfInBounds_toArray, List.set_cons_zero, List.set_cons_succ])
      refine wpAnyH_take (i := 1) (oi := ?oi_84) (v := ?v_84) ?ho_84 ?h1_84 ?h2_84 ?h3_84 ?hq_84 (Or.inl ⟨?hw_84, ?hy_84⟩) ?hs_84 ?rest_84; (case h2_84 => kernel_rfl); (case h3_84 => kernel_rfl); (case ho_84 => (simp only [List.getElem?_toArray, List.getElem?_cons_zero, List.getElem?_cons_succ]; rfl)); (case h1_84 => kernel_rfl); (case hq_84 => exact fun _ _ _ h => h); (case hw_84 => rfl); (case hy_84 => (intro w' hSw; (try simp only [S] at hSw); go_simp; (try with_reducible rfl))); (case hs_84 => assumption); (try simp only [Act.put, List.setIfInBounds_toArray, List.set_cons_zero, List.set_cons_succ])
      refine wpAnyH_take (i := 4) (oi := ?oi_85) (v := ?v_85) ?ho_85 ?h1_85 ?h2_85 ?h3_85 ?hq_85 (Or.inl ⟨?hw_85, ?hy_85⟩) ?hs_85 ?rest_85; (case h2_85 => kernel_rfl); (case h3_85 => kernel_rfl); (case ho_85 => (simp only [List.getElem?_toArray, List.getElem?_cons_zero, List.getElem?_cons_succ]; rfl)); (case h1_85 => kernel_rfl); (case hq_85 => exact fun _ _ _ h => h); (case hw_85 => rfl); (case hy_85 => (intro w' hSw; (try simp only [S] at hSw); go_simp; (try with_reducible rfl))); (case hs_85 => assumption); (try simp only [Act.put, List.setIfInBounds_toArray, List.set_cons_zero, List.set_cons_succ])
      refine wpAnyH_take (i := 5) (oi := ?oi_86) (v := ?v_86) ?ho_86 ?h1_86 ?h2_86 ?h3_86 ?hq_86 (Or.inl ⟨?hw_86, ?hy_86⟩) ?hs_86 ?rest_86; (case h2_86 => kernel_rfl); (case h3_86 => kernel_rfl); (case ho_86 => (simp only [List.getElem?_toArray, List.getElem?_cons_zero, List.getElem?_cons_succ]; rfl)); (case h1_86 => kernel_rfl); (case hq_86 => exact fun _ _ _ h => h); (case hw_86 => rfl); (case hy_86 => (intro w' hSw; (try simp only [S] at hSw); go_simp; (try with_reducible rfl))); (case hs_86 => assumption); (try simp only [Act.put, List.setIfInBounds_toArray, List.set_cons_zero, List.set_cons_succ])
      refine wpAnyH_take (i := 6) (oi := ?oi_87) (v := ?v_87) ?ho_87 ?h1_87 ?h2_87 ?h3_87 ?hq_87 (Or.inl ⟨?hw_87, ?hy_87⟩) ?hs_87 ?rest_87; (case h2_87 => kernel_rfl); (case h3_87 => kernel_rfl); (case ho_87 => (simp only [List.getElem?_toArray, List.getElem?_cons_zero, List.getElem?_cons_succ]; rfl)); (case h1_87 => kernel_rfl); (case hq_87 => exact fun _ _ _ h => h); (case hw_87 => rfl); (case hy_87 => (intro w' hSw; (try simp only [S] at hSw); go_simp; (try with_reducible rfl))); (case hs_87 => assumption); (try simp only [Act.put, List.setIfInBounds_toArray, List.set_cons_zero, List.set_cons_succ])
      refine wpAnyH_take (i := 7) (oi := ?oi_88) (v := ?v_88) ?ho_88 ?h1_88 ?h2_88 ?h3_88 ?hq_88 (Or.inl ⟨?hw_88, ?hy_88⟩) ?hs_88 ?rest_88; (case h2_88 => kernel_rfl); (case h3_88 => kernel_rfl); (case ho_88 => (simp only [List.getElem?_toArray, List.getElem?_cons_zero, List.getElem?_cons_succ]; rfl)); (case h1_88 => kernel_rfl); (case hq_88 => exact fun _ _ _ h => h); (case hw_88 => rfl); (case hy_88 => (intro w' hSw; (try simp only [S] at hSw); go_simp; (try with_reducible rfl))); (case hs_88 => assumption); (try simp only [Act.put, List.setIfInBounds_toArray, List.set_cons_zero, List.set_cons_succ])
      refine wpAnyH_take (i := 8) (oi := ?oi_89) (v := ?v_89) ?ho_89 ?h1_89 ?h2_89 ?h3_89 ?hq_89 (Or.inl ⟨?hw_89, ?hy_89⟩) ?hs_89 ?rest_89; (case h2_89 => kernel_rfl); (case h3_89 => kernel_rfl); (case ho_89 => (simp only [List.getElem?_toArray, List.getElem?_cons_zero, List.getElem?_cons_succ]; rfl)); (case h1_89 => kernel_rfl); (case hq_89 => exact fun _ _ _ h => h); (case hw_89 => rfl); (case hy_89 => (intro w' hSw; (try simp only [S] at hSw); go_simp; (try with_reducible rfl))); (case hs_89 => assumption); (try simp only [Act.put, List.setIfInBounds_toArray, List.set_cons_zero, List.set_cons_succ])
      refine wpAnyH_take (i := 9) (oi := ?oi_90) (v := ?v_90) ?ho_90 ?h1_90 ?h2_90 ?h3_90 ?hq_90 (Or.inl ⟨?hw_90, ?hy_90⟩) ?hs_90 ?rest_90; (case h2_90 => kernel_rfl); (case h3_90 => kernel_rfl); (case ho_90 => (simp only [List.getElem?_toArray, List.getElem?_cons_zero, List.getElem?_cons_succ]; rfl)); (case h1_90 => kernel_rfl); (case hq_90 => exact fun _ _ _ h => h); (case hw_90 => rfl); (case hy_90 => (intro w' hSw; (try simp only [S] at hSw); go_simp; (try with_reducible rfl))); (case hs_90 => assumption); (try simp only [Act.put, List.setIfInBounds_toArray, List.set_cons_zero, List.set_cons_succ])
      refine wpAnyH_take (i := 10) (oi := ?oi_91) (v := ?v_91) ?ho_91 ?h1_91 ?h2_91 ?h3_91 ?hq_91 (Or.inl ⟨?hw_91, ?hy_91⟩) ?hs_91 ?rest_91; (case h2_91 => kernel_rfl); (case h3_91 => kernel_rfl); (case ho_91 => (simp only [List.getElem?_toArray, List.getElem?_cons_zero, List.getElem?_cons_succ]; rfl)); (case h1_91 => kernel_rfl); (case hq_91 => exact fun _ _ _ h => h); (case hw_91 => rfl); (case hy_91 => (intro w' hSw; (try simp only [S] at hSw); go_simp; (try with_reducible rfl))); (case hs_91 => assumption); (try simp only [Act.put, List.setIfInBounds_toArray, List.set_cons_zero, List.set_cons_succ])
      refine wpAnyH_take (i := 11) (oi := ?oi_92) (v := ?v_92) ?ho_92 ?h1_92 ?h2_92 ?h3_92 ?hq_92 (Or.inl ⟨?hw_92, ?hy_92⟩) ?hs_92 ?rest_92; (case h2_92 => kernel_rfl); (case h3_92 => kernel_rfl); (case ho_92 => (simp only [List.getElem?_toArray, List.getElem?_cons_zero, List.getElem?_cons_succ]; rfl)); (case h1_92 => kernel_rfl); (case hq_92 => exact fun _ _ _ h => h); (case hw_92 => rfl); (case hy_92 => (intro w' hSw; (try simp only [S] at hSw); go_simp; (try with_reducible rfl))); (case hs_92 => assumption); (try simp only [Act.put, List.setIfInBounds_toArray, List.set_cons_zero, List.set_cons_succ])
      refine wpAnyH_take (i := 12) (oi := ?oi_93) (v := ?v_93) ?ho_93 ?h1_93 ?h2_93 ?h3_93 ?hq_93 (Or.inl ⟨?hw_93, ?hy_93⟩) ?hs_93 ?rest_93; (case h2_93 => kernel_rfl); (case h3_93 => kernel_rfl); (case ho_93 => (simp only [List.getElem?_toArray, List.getElem?_cons_zero, List.getElem?_cons_succ]; rfl)); (case h1_93 => kernel_rfl); (case hq_93 => exact fun _ _ _ h => h); (case hw_93 => rfl); (case hy_93 => (intro w' hSw; (try simp only [S] at hSw); go_simp; (try with_reducible rfl))); (case hs_93 => assumption); (try simp only [Act.put, List.setIfInBounds_toArray, List.set_cons_zero, List.set_cons_succ])
      refine wpAnyH_take (i := 13) (oi := ?oi_94) (v := ?v_94) ?ho_94 ?h1_94 ?h2_94 ?h3_94 ?hq_94 (Or.inl ⟨?hw_94, ?hy_94⟩) ?hs_94 ?rest_94; (case h2_94 => kernel_rfl); (case h3_94 => kernel_rfl); (case ho_94 => (simp only [List.getElem?_toArray, List.getElem?_cons_zero, List.getElem?_cons_succ]; rfl)); (case h1_94 => kernel_rfl); (case hq_94 => exact fun _ _ _ h => h); (case hw_94 => rfl); (case hy_94 => (intro w' hSw; (try simp only [S] at hSw); go_simp; (try with_reducible rfl))); (case hs_94 => assumption); (try simp only [Act.put, List.setIfInBounds_toArray, List.set_cons_zero, List.set_cons_succ])
      refine wpAnyH_take (i := 14) (oi := ?oi_95) (v := ?v_95) ?ho_95 ?h1_95 ?h2_95 ?h3_95 ?hq_95 (Or.inl ⟨?hw_95, ?hy_95⟩) ?hs_95 ?rest_95; (case h2_95 => kernel_rfl); (case h3_95 => kernel_rfl); (case ho_95 => (simp only [List.getElem?_toArray, List.getElem?_cons_zero, List.getElem?_cons_succ]; rfl)); (case h1_95 => kernel_rfl); (case hq_95 => exact fun _ _ _ h => h); (case hw_95 => rfl); (case hy_95 => (intro w' hSw; (try simp only [S] at hSw); go_simp; (try with_reducible rfl))); (case hs_95 => assumption); (try simp only [Act.put, List.setIfInBounds_toArray, List.set_cons_zero, List.set_cons_succ])
      refine wpAnyH_take (i := 15) (oi := ?oi_96) (v := ?v_96) ?ho_96 ?h1_96 ?h2_96 ?h3_96 ?hq_96 (Or.inl ⟨?hw_96, ?hy_96⟩) ?hs_96 ?rest_96; (case h2_96 => kernel_rfl); (case h3_96 => kernel_rfl); (case ho_96 => (simp only [List.getElem?_toArray, List.getElem?_cons_zero, List.getElem?_cons_succ]; rfl)); (case h1_96 => kernel_rfl); (case hq_96 => exact fun _ _ _ h => h); (case hw_96 => rfl); (case hy_96 => (intro w' hSw; (try simp only [S] at hSw); go_simp; (try with_reducible rfl))); (case hs_96 => assumption); (try simp only [Act.put, List.setIfInBounds_toArray, List.set_cons_zero, List.set_cons_succ])
      refine wpAnyH_take (i := 16) (oi := ?oi_97) (v := ?v_97) ?ho_97 ?h1_97 ?h2_97 ?h3_97 ?hq_97 (Or.inl ⟨?hw_97, ?hy_97⟩) ?hs_97 ?rest_97; (case h2_97 => kernel_rfl); (case h3_97 => kernel_rfl); (case ho_97 => (simp only [List.getElem?_toArray, List.getElem?_cons_zero, List.getElem?_cons_succ]; rfl)); (case h1_97 => kernel_rfl); (case hq_97 => exact fun _ _ _ h => h); (case hw_97 => rfl); (case hy_97 => (intro w' hSw; (try simp only [S] at hSw); go_simp; (try with_reducible rfl))); (case hs_97 => assumption); (try simp only [Act.put, List.setIfInBounds_toArray, List.set_cons_zero, List.set_cons_succ])
      refine wpAnyH_take (i := 17) (oi := ?oi_98) (v := ?v_98) ?ho_98 ?h1_98 ?h2_98 ?h3_98 ?hq_98 (Or.inl ⟨?hw_98, ?hy_98⟩) ?hs_98 ?rest_98; (case h2_98 => kernel_rfl); (case h3_98 => kernel_rfl); (case ho_98 => (simp only [List.getElem?_toArray, List.getElem?_cons_zero, List.getElem?_cons_succ]; rfl)); (case h1_98 => kernel_rfl); (case hq_98 => exact fun _ _ _ h => h); (case hw_98 => rfl); (case hy_98 => (intro w' hSw; (try simp only [S] at hSw); go_simp; (try with_reducible rfl))); (case hs_98 => assumption); (try simp only [Act.put, List.setIfInBounds_toArray, List.set_cons_zero, List.set_cons_succ])
      refine wpAnyH_take (i := 18) (oi := ?oi_99) (v := ?v_99) ?ho_99 ?h1_99 ?h2_99 ?h3_99 ?hq_99 (Or.inl ⟨?hw_99, ?hy_99⟩) ?hs_99 ?rest_99; (case h2_99 => kernel_rfl); (case h3_99 => kernel_rfl); (case ho_99 => (simp only [List.getElem?_toArray, List.getElem?_cons_zero, List.getElem?_cons_succ]; rfl)); (case h1_99 => kernel_rfl); (case hq_99 => exact fun _ _ _ h => h); (case hw_99 => rfl); (case hy_99 => (intro w' hSw; (try simp only [S] at hSw); go_simp; (try with_reducible rfl))); (case hs_99 => assumption); (try simp only [Act.put, List.setIfInBounds_toArray, List.set_cons_zero, List.set_cons_succ])
      refine wpAnyH_take (i := 19) (oi := ?oi_100) (v := ?v_100) ?ho_100 ?h1_100 ?h2_100 ?h3_100 ?hq_100 (Or.inl ⟨?hw_100, ?hy_100⟩) ?hs_100 ?rest_100; (case h2_100 => kernel_rfl); (case h3_100 => kernel_rfl); (case ho_100 => (simp only [List.getElem?_toArray, List.getElem?_cons_zero, List.getElem?_cons_succ]; rfl)); (case h1_100 => kernel_rfl); (case hq_100 => exact fun _ _ _ h => h); (case hw_100 => rfl); (case hy_100 => (intro w' hSw; (try simp only [S] at hSw); go_simp; (try with_reducible rfl))); (case hs_100 => assumption); (try simp only [Act.put, List.setIfInBounds_toArray, List.set_cons_zero, List.set_cons_succ])
      refine wpAnyH_take (i := 20) (oi := ?oi_101) (v := ?v_101) ?ho_101 ?h1_101 ?h2_101 ?h3_101 ?hq_101 (Or.inl ⟨?hw_101, ?hy_101⟩) ?hs_101 ?rest_101; (case h2_101 => kernel_rfl); (case h3_101 => kernel_rfl); (case ho_101 => (simp only [List.getElem?_toArray, List.getElem?_cons_zero, List.getElem?_cons_succ]; rfl)); (case h1_101 => kernel_rfl); (case hq_101 => exact fun _ _ _ h => h); (case hw_101 => rfl); (case hy_101 => (intro w' hSw; (try simp only [S] at hSw); go_simp; (try with_reducible rfl))); (case hs_101 => assumption); (try simp only [Act.put, List.setIfInBounds_toArray, List.set_cons_zero, List.set_cons_succ])
      refine wpAnyH_ready (rs := [2]) (by kernel_rfl) (by simp) (AllReadyH.cons (o := ?oo2_106) ?hoo2_106 (fun K hK => ?steponly106) AllReadyH.nil); (case hoo2_106 => (simp only [List.getElem?_toArray, List.getElem?_cons_zero, List.getElem?_cons_succ]; rfl))
      go_simp
      refine hK.out _ _ (hS1 _) (fun _ => ?_)
      clear hK K
      (try simp only [Act.put, List.setIfInBounds_toArray, List.set_cons_zero, List.set_cons_succ])
      refine wpAnyH_ready (rs := [3]) (by kernel_rfl) (by simp) (AllReadyH.cons (o := ?oo3_107) ?hoo3_107 (fun K hK => ?steponly107) AllReadyH.nil); (case hoo3_107 => (simp only [List.getElem?_toArray, List.getElem?_cons_zero, List.getElem?_cons_succ]; rfl))
      go_simp
      refine Calls.mono (hA _ _ ?_) ?_
      · exact heap_alloc_new V _
      rintro e _ ⟨rfl, rfl⟩
      refine hK.out _ _ (hS1 _) (fun _ => ?_)
      clear hK K
      (try simp only [Act.put, List.setIfInBounds_toArray, List.set_cons_zero, List.set_cons_succ])
      refine wpAnyH_take (i := 21) (oi := ?oi_102) (v := ?v_102) ?ho_102 ?h1_102 ?h2_102 ?h3_102 ?hq_102 (Or.inl ⟨?hw_102, ?hy_102⟩) ?hs_102 ?rest_102; (case h2_102 => kernel_rfl); (case h3_102 => kernel_rfl); (case ho_102 => (simp only [List.getElem?_toArray, List.getElem?_cons_zero, List.getElem?_cons_succ]; rfl)); (case h1_102 => kernel_rfl); (case hq_102 => exact fun _ _ _ h => h); (case hw_102 => rfl); (case hy_102 => (intro w' hSw; (try simp only [S] at hSw); go_simp; (try with_reducible rfl))); (case hs_102 => assumption); (try simp only [Act.put, List.setIfInBounds_toArray, List.set_cons_zero, List.set_cons_succ])
      refine wpAnyH_take (i := 22) (oi := ?oi_103) (v := ?v_103) ?ho_103 ?h1_103 ?h2_103 ?h3_103 ?hq_103 (Or.inl ⟨?hw_103, ?hy_103⟩) ?hs_103 ?rest_103; (case h2_103 => kernel_rfl); (case h3_103 => kernel_rfl); (case ho_103 => (simp only [List.getElem?_toArray, List.getElem?_cons_zero, List.getElem?_cons_succ]; rfl)); (case h1_103 => kernel_rfl); (case hq_103 => exact fun _ _ _ h => h); (case hw_103 => rfl); (case hy_103 => (intro w' hSw; (try simp only [S] at hSw); go_simp; (try with_reducible rfl))); (case hs_103 => assumption); (try simp only [Act.put, List.setIfInBounds_toArray, List.set_cons_zero, List.set_cons_succ])
      refine wpAnyH_done (by kernel_rfl) ?_ _
      simp only [w_add, w_and, w_xor]
      obtain ⟨y1, hy1⟩ : ∃ x, ry ⟨va, vb, vc, vd, ve, vf, vg, vh⟩ = x := ⟨_, rfl⟩
      rw [hy1] at HY
      have hy2 : rA + ((va &&& vb) ^^^ (va &&& vc) ^^^ (vb &&& vc)) = y1 := HY.out.symm
      rw [hy2]
      have hbU : Below V.heap.size V (World.drew (V.alloc (.cells #[.int .i64 2, .int .i64 13, .int .i64 22] 3))) := ((Below.refl _ _).alloc (Nat.le_refl _) _).drew
      generalize World.drew (World.alloc V _) = U at *
      clear hS0 hS1 c0 c1 c2 HY hy2
      replace a2 := bBlk hbU (by omega) a2
      replace a4 := bBlk hbU (by omega) a4
      replace a5 := bBlk hbU (by omega) a5
      replace a6 := bBlk hbU (by omega) a6
      replace hB := hB.trans (hbU.mono (by omega))
      have hzU := hbU.size
      clear hbU
      have d0 : U.cell? ⟨g6, 0, none⟩ = some (.int .u32 (va.toNat : Int)) := blk_cell a6 rfl
      have d1 : U.cell? ⟨g6, 1, none⟩ = some (.int .u32 (vb.toNat : Int)) := blk_cell a6 rfl
      have d2 : U.cell? ⟨g6, 2, none⟩ = some (.int .u32 (vc.toNat : Int)) := blk_cell a6 rfl
      have d3 : U.cell? ⟨g6, 3, none⟩ = some (.int .u32 (vd.toNat : Int)) := blk_cell a6 rfl
      have d4 : U.cell? ⟨g6, 4, none⟩ = some (.int .u32 (ve.toNat : Int)) := blk_cell a6 rfl
      have d5 : U.cell? ⟨g6, 5, none⟩ = some (.int .u32 (vf.toNat : Int)) := blk_cell a6 rfl
      have d6 : U.cell? ⟨g6, 6, none⟩ = some (.int .u32 (vg.toNat : Int)) := blk_cell a6 rfl
      have m1 := m_add x1 y1
      have m2 := m_add vd x1
      have hrd : rnd ⟨va, vb, vc, vd, ve, vf, vg, vh⟩ kk ww = ⟨x1 + y1, va, vb, vc, vd + x1, ve, vf, vg⟩ := by unfold rnd; rw [hx1, hy1]
      rw [hrd] at HR
      clear hx1 hy1 hrd
      obtain ⟨n0, hn0⟩ : ∃ x, x1 + y1 = x := ⟨_, rfl⟩
      obtain ⟨n4, hn4⟩ : ∃ x, vd + x1 = x := ⟨_, rfl⟩
      rw [hn0] at HR m1
      rw [hn4] at HR m2
      clear hn0 hn4
      have hnl : (St.list ⟨n0, va, vb, vc, n4, ve, vf, vg⟩).length = 8 := rfl
      obtain ⟨OV, hOV⟩ : ∃ l, (⟨va, vb, vc, vd, ve, vf, vg, vh⟩ : St).list = l := ⟨_, rfl⟩
      have hol : OV.length = 8 := by rw [← hOV]; rfl
      rw [hOV] at a6
      clear hOV
      go_upto_region 9 with (first
        | (refine wpList_store_row rfl 60 (.tmp 6) (.tmp 87) rfl _ (wvs (St.list ⟨n0, va, vb, vc, n4, ve, vf, vg⟩)).toArray rfl rfl _ (wvs OV).toArray a6 (w8_info hnl) (ws_sizes hol hnl) (all_oneCell_toArray (oneCell_wvs _)) ?_)
        | fail)
      generalize hXX : World.setRow _ _ _ = XX
      have b6 : XX.heap[g6]? = some (.cells (wvs (St.list ⟨n0, va, vb, vc, n4, ve, vf, vg⟩)).toArray 60) := by rw [← hXX]; exact setRow_heap _ _ _ _ _ _ a6
      have b2 : XX.heap[w.heap.size]? = some (.cells (wvs M).toArray 60) := by rw [← hXX]; exact (setRow_other _ _ _ _ hd.1).trans a2
      have b4 : XX.heap[w.heap.size + 1]? = some (.cells (wvs z8).toArray 60) := by rw [← hXX]; exact (setRow_other _ _ _ _ hd.2.1).trans a4
      have b5 : XX.heap[g5]? = some (.cells (wvs KT).toArray 71) := by rw [← hXX]; exact (setRow_other _ _ _ _ hd.2.2.1).trans a5
      have hBX : Below w.heap.size w XX := by rw [← hXX]; exact bSetRow hB hd.2.2.2 _
      clear hXX
      go_wp2_with fail
      go_roundw
      case rel => exact ⟨t + 1, by go_num, by omega, b2, b4, b5, by rw [HR.out]; exact b6, hBX⟩
      case measure => simp [intOf]; omega
    · obtain rfl : t = 64 := by omega
      have g1 : ¬ ((64 : Nat) : Int) < 64 := by omega
      have HC2 : Hid (RV = addTo (rnds s WS 64).list M 8) := Lib.hid (by rw [HC.out, plus_list, hM])
      have hvl : (rnds s WS 64).list.length = 8 := St.list_len _
      clear HC
      generalize (rnds s WS 64).list = V at *
      have a6' : wr.heap[g6]? = some (.cells (wvs (addTo V M 0)).toArray 60) := a6
      clear a6 a5
      go_wp2_with fail
      rename World => Wo
      go_loopw [89] (fun i wr => ∃ t : Nat, i = .int .i64 t ∧ t ≤ 8 ∧ wr.heap[w.heap.size]? = some (.cells (wvs M).toArray 60) ∧ wr.heap[w.heap.size + 1]? = some (.cells (wvs z8).toArray 60) ∧ wr.heap[g6]? = some (.cells (wvs (addTo V M t)).toArray 60) ∧ Below w.heap.size w wr) (fun i _ => 8 - (intOf i).toNat)
      case atStart => exact ⟨0, rfl, by omega, a2, a4, a6', hB⟩
      case round =>
        clear a2 a4 a6' hB
        obtain ⟨t, rfl, ht, a2, a4, a6, hB⟩ := hrel
        by_cases hlt : t < 8
        · have g1 : (t : Int) < 8 := by omega
          obtain ⟨x, hx⟩ : ∃ x, V[t]? = some x := ⟨_, List.getElem?_eq_getElem (by omega)⟩
          obtain ⟨y, hy⟩ : ∃ y, M[t]? = some y := ⟨_, List.getElem?_eq_getElem (by omega)⟩
          have c1 := blk_cell a6 (wvs_at ((addTo_at V M (Nat.le_refl t)).trans hx))
          have c2 := blk_cell a2 (wvs_at hy)
          have f1 := blk_frozen a6 t
          have HS : Hid (addTo V M (t + 1) = (addTo V M t).set t (x + y)) := Lib.hid (by rw [addTo]; unfold wAt; rw [hx, hy]; rfl)
          have m1 := m_add x y
          clear hx hy
          go_wp2_with fail
          go_still_tail 8, (by kernel_rfl)
          change wpList _ _ _ _ _ (World.drew _)
          go_wp2
          generalize hX : World.drew (World.setCell _ _ _) = X
          have b6 : X.heap[g6]? = some (.cells (wvs (addTo V M (t + 1))).toArray 60) := by rw [← hX, HS.out, ← wvs_set]; exact blk_set a6 t _
          have b2 : X.heap[w.heap.size]? = some (.cells (wvs M).toArray 60) := by rw [← hX]; exact blk_far (W := wr) a2 _ hd.1
          have b4 : X.heap[w.heap.size + 1]? = some (.cells (wvs z8).toArray 60) := by rw [← hX]; exact blk_far (W := wr) a4 _ hd.2.1
          have hBX : Below w.heap.size w X := by rw [← hX]; exact Below.drew (Below.setCell hB (p := ⟨g6, t, none⟩) hd.2.2.2 _)
          clear hX
          go_wp2_with fail
          go_roundw
          case rel => exact ⟨t + 1, by go_num, by omega, b2, b4, b6, hBX⟩
          case measure => simp [intOf]; omega
        · obtain rfl : t = 8 := by omega
          have hrl : RV.length = 8 := by rw [HC2.out, addTo_len, hvl]
          rw [← HC2.out] at a6
          clear HC2
          go_wp2_with (first
            | (refine wpList_load_row rfl 60 (.tmp 6) rfl _ rfl _ (wvs RV).toArray (0, 0) _ a6 Try.underlying60 rfl (w8_info hrl) ?_)
            | (refine wpList_store_row rfl 60 (.tmp 4) (.tmp 101) rfl _ (wvs RV).toArray rfl rfl _ (wvs z8).toArray a4 (w8_info hrl) (ws_sizes hz8 hrl) (all_oneCell_toArray (oneCell_wvs _)) ?_)
            | fail)
          generalize hX : World.setRow _ _ _ = X
          have b4 : X.heap[w.heap.size + 1]? = some (.cells (wvs RV).toArray 60) := by rw [← hX]; exact setRow_heap _ _ _ _ _ _ a4
          have hBX : Below w.heap.size w X := by rw [← hX]; exact bSetRow hB (Nat.le_succ _) _
          clear hX
          have hld := run_loadVar_row (P := Try.prog) X _ _ 60 _ _ _ b4 Try.underlying60 rfl (w8_info hrl)
          refine bodyPost_ret (by simp [results, Try.results32, Act.put, asAddr, Result.andThen, hld]; try rfl) rfl ?_
          exact Ret.mk (by rw [hRV]) hBX
end Go.Proofs.Ytcnbonmpocddmaa
