/- The walk over the reference's DecodeLog. -/
import Derived.Test.YtjfkaebikmnnaaaRevLDec
namespace Go.Proofs.Ytjfkaebikmnnaaa
set_option linter.unusedSimpArgs false
set_option linter.unusedVariables false
open Go.RowKit Go.Sort
attribute [-go_sem] Instr.buildSlice Builtin.append_

theorem les_snoc (L : List LE) (x : LE) : les (L ++ [x]) = les L ++ x.cells := by simp [les]
theorem le_zero_cells (z : Int) : (LE.mk z (List.replicate 32 0)).cells = .int .i64 z :: bvs (List.replicate 32 0) := rfl
theorem le_fill (z : Int) {K : List UInt8} (hK : K.length = 32) : setMany (LE.mk z (List.replicate 32 0)).cells.toArray 1 (bvs K) = (LE.mk z K).cells.toArray := by
  have := setMany_at (l := (LE.mk z (List.replicate 32 0)).cells) (x := [.int .i64 z]) (y := bvs (List.replicate 32 0)) (z := []) (v := bvs K) (o := 1) (by rw [List.append_nil]; rfl) rfl (by rw [bvs_len, bvs_len, hK]; simp)
  rw [this, List.append_nil]; rfl
theorem built_le1 (z : Int) : Try.prog.built 66 [(0, .int .i64 z)] = some (LE.mk z (List.replicate 32 0)).cells.toArray := by kernel_rfl
theorem built_lg1 (z : Int) : Try.prog.built 46 [(0, .int .i64 z)] = some #[.int .i64 z, .slice none 0 0] := by kernel_rfl
theorem decE_ok {b : List UInt8} {cnt k : Nat} (hl : b.length = 3 + cnt * 34) (hk : k < cnt) : (decE b k).Ok := by
  have := n16_lt b (3 + k * 34)
  refine ⟨?_, ?_⟩
  · show -9223372036854775808 ≤ ((n16 b (3 + k * 34) : Nat) : Int) ∧ ((n16 b (3 + k * 34) : Nat) : Int) ≤ 9223372036854775807
    omega
  · show ((b.drop (3 + k * 34 + 2)).take 32).length = 32
    rw [List.length_take, List.length_drop, hl]
    have : (k + 1) * 34 ≤ cnt * 34 := Nat.mul_le_mul_right _ hk
    omega
theorem range_snoc (b : List UInt8) (k : Nat) : les ((List.range (k + 1)).map (decE b)) = les ((List.range k).map (decE b)) ++ (decE b k).cells := by
  rw [List.range_succ, List.map_append, List.map_cons, List.map_nil, les_snoc]

set_option maxHeartbeats 16000000 in
set_option maxRecDepth 100000 in
theorem rldec_full {b o n c B cnt : Nat} {l : List UInt8} (w : World) (hn : n = 3 + cnt * 34) (hcnt : (at8 l 2).toNat = cnt) (hs : Sl w B 1 (some ⟨b, o, none⟩) n (bvs l)) (hB : B ≤ w.heap.size) (hnc : n ≤ c) (hcm : c ≤ maxLen) : Calls Try.prog 27 #[.slice (some ⟨b, o, none⟩) n c] w (LDec w l) := by
  have hl : l.length = n := by have := hs.len; rw [bvs_len] at this; omega
  obtain ⟨b', o', e, hb, hr⟩ := hs.at_ (by omega)
  simp only [Option.some.injEq, Addr.mk.injEq, and_true] at e
  obtain ⟨rfl, rfl⟩ := e
  have k0 := hs.cellAt rfl (i := 0) (by omega)
  have k1 := hs.cellAt rfl (i := 1) (by omega)
  have k2 := hs.cellAt rfl (i := 2) (by omega)
  rw [Nat.add_zero] at k0
  have l0 := (at8 l 0).toNat_lt
  have l1 := (at8 l 1).toNat_lt
  have l2 := (at8 l 2).toNat_lt
  have hbw : b < w.heap.size := by omega
  have hdd : (List.range cnt).map (decE l) = decL l := by unfold decL; rw [hcnt]
  have hoky : ∀ y ∈ decL l, y.Ok := by
    intro y hy
    rw [← hdd] at hy
    obtain ⟨z, hz, rfl⟩ := List.mem_map.1 hy
    exact decE_ok (by rw [hl, hn]) (List.mem_range.1 hz)
  have hdl : (decL l).length = cnt := by rw [← hdd, List.length_map, List.length_range]
  have hL : isL l = goodL (n16 l 0) (decL l) := by unfold isL; rw [decide_eq_true ⟨by omega, by rw [hcnt, hl, hn]⟩]; rfl
  have hnxt : ((at8 l 0).toNat : Int) * 256 + ((at8 l 1).toNat : Int) = ((n16 l 0 : Nat) : Int) := by
    show _ = (((at8 l 0).toNat * 256 + (at8 l 1).toNat : Nat) : Int)
    omega
  have h16 := n16_lt l 0
  obtain ⟨next, hnx⟩ : ∃ z : Int, ((n16 l 0 : Nat) : Int) = z := ⟨_, rfl⟩
  have hN : Hid (nextOf l = if isL l then next else 0) := Lib.hid (by unfold nextOf; rw [hnx])
  have hO : Hid (logOf l = if isL l then decL l else []) := Lib.hid rfl
  rw [hnx] at hL hnxt
  rw [hcnt] at k2 l2
  have HD := Lib.hid (And.intro hdd (And.intro hs (And.intro hr hl)))
  clear hcnt hr hdd
  generalize (at8 l 0).toNat = X0 at *
  generalize (at8 l 1).toNat = X1 at *
  have w0 : IntKind.i64.wrap (X0 : Int) = X0 := wrap_small _ (by omega) (by omega)
  have w1 : IntKind.i64.wrap (X1 : Int) = X1 := wrap_small _ (by omega) (by omega)
  have w5 : IntKind.i64.wrap ((X0 : Int) * 256) = X0 * 256 := wrap_small _ (by omega) (by omega)
  have w7 : IntKind.i64.wrap ((X0 : Int) * 256 + X1) = next := by rw [← hnxt]; exact wrap_small _ (by omega) (by omega)
  have hnp : 0 ≤ next ∧ next ≤ 65535 := by omega
  have hbt := built_lg1 next
  clear hnxt hnx h16 hs
  have i1 : ¬ (n : Int) < 3 := by omega
  have i4 : (n : Int) = 3 + 34 * (cnt : Int) := by omega
  have i5 : ((n : Int) != 3 + 34 * (cnt : Int)) = false := by rw [i4]; simp
  have i7 : 2 < n := by omega
  have i8 : 1 < n := by omega
  have i9 : 0 < n := by omega
  have i10 : (1 : Int) < (n : Int) := by omega
  have i11 : (2 : Int) < (n : Int) := by omega
  have j1 : IntKind.i64.wrap (34 * (cnt : Int)) = 34 * (cnt : Int) := wrap_small _ (by omega) (by omega)
  have hz := lgZ
  have HN2 := Lib.hid (And.intro hn i4)
  unfold maxLen at hcm
  clear hn i4
  go_enter Try.func27, Try.ntmps27
  go_upto_region 3 with (fail)
  obtain ⟨W, hW⟩ : ∃ W, w.alloc (.cells #[.int .i64 0, .slice none 0 0] 46) = W := ⟨_, rfl⟩
  try rw [hW]
  have a2 : W.heap[w.heap.size]? = some (.cells #[.int .i64 0, .slice none 0 0] 46) := by rw [← hW]; exact heap_alloc_new _ _
  have hBW : Below w.heap.size w W := by rw [← hW]; exact (Below.refl _ _).alloc (Nat.le_refl _) _
  have hzW : w.heap.size < W.heap.size := by rw [← hW]; simp
  clear hW
  replace k0 := (hBW.cell (p := ⟨b, o, none⟩) hbw).trans k0
  replace k1 := (hBW.cell (p := ⟨b, o + 1, none⟩) hbw).trans k1
  replace k2 := (hBW.cell (p := ⟨b, o + 2, none⟩) hbw).trans k2
  let S : World → Prop := fun w' => w'.cell? ⟨b, o, none⟩ = some (.int .u8 (X0 : Int)) ∧ w'.cell? ⟨b, o + 1, none⟩ = some (.int .u8 (X1 : Int))
  have hSS : ∀ w', Below W.heap.size W w' → S w' := fun w' h => ⟨(h.cell (p := ⟨b, o, none⟩) (by show b < _; omega)).trans k0, (h.cell (p := ⟨b, o + 1, none⟩) (by show b < _; omega)).trans k1⟩
  have hS0 : S W.drew := hSS _ (Below.refl _ _).drew
  clear k0 k1
  refine wp_region_held (S := S) (by kernel_rfl) ?_
  change wpAnyH _ _ _ _ S _ _ _ W.drew
  refine wpAnyH_take (i := 0) (oi := ?oi_1) (v := ?v_1) ?ho_1 ?h1_1 ?h2_1 ?h3_1 ?hq_1 (Or.inl ⟨?hw_1, ?hy_1⟩) ?hs_1 ?rest_1; (case h2_1 => kernel_rfl); (case h3_1 => kernel_rfl); (case ho_1 => (simp only [List.getElem?_toArray, List.getElem?_cons_zero, List.getElem?_cons_succ]; rfl)); (case h1_1 => kernel_rfl); (case hq_1 => exact fun _ _ _ h => h); (case hw_1 => rfl); (case hy_1 => (intro w' hSw; (try simp only [S] at hSw); go_simp; (try with_reducible rfl))); (case hs_1 => assumption); (try simp only [Act.put, List.setIfInBounds_toArray, List.set_cons_zero, List.set_cons_succ])
  refine wpAnyH_take (i := 1) (oi := ?oi_2) (v := ?v_2) ?ho_2 ?h1_2 ?h2_2 ?h3_2 ?hq_2 (Or.inl ⟨?hw_2, ?hy_2⟩) ?hs_2 ?rest_2; (case h2_2 => kernel_rfl); (case h3_2 => kernel_rfl); (case ho_2 => (simp only [List.getElem?_toArray, List.getElem?_cons_zero, List.getElem?_cons_succ]; rfl)); (case h1_2 => kernel_rfl); (case hq_2 => exact fun _ _ _ h => h); (case hw_2 => rfl); (case hy_2 => (intro w' hSw; (try simp only [S] at hSw); go_simp; (try with_reducible rfl))); (case hs_2 => assumption); (try simp only [Act.put, List.setIfInBounds_toArray, List.set_cons_zero, List.set_cons_succ])
  refine wpAnyH_take (i := 2) (oi := ?oi_3) (v := ?v_3) ?ho_3 ?h1_3 ?h2_3 ?h3_3 ?hq_3 (Or.inl ⟨?hw_3, ?hy_3⟩) ?hs_3 ?rest_3; (case h2_3 => kernel_rfl); (case h3_3 => kernel_rfl); (case ho_3 => (simp only [List.getElem?_toArray, List.getElem?_cons_zero, List.getElem?_cons_succ]; rfl)); (case h1_3 => kernel_rfl); (case hq_3 => exact fun _ _ _ h => h); (case hw_3 => rfl); (case hy_3 => (intro w' hSw; (try simp only [S] at hSw); go_simp; (try with_reducible rfl))); (case hs_3 => assumption); (try simp only [Act.put, List.setIfInBounds_toArray, List.set_cons_zero, List.set_cons_succ])
  refine wpAnyH_take (i := 3) (oi := ?oi_4) (v := ?v_4) ?ho_4 ?h1_4 ?h2_4 ?h3_4 ?hq_4 (Or.inl ⟨?hw_4, ?hy_4⟩) ?hs_4 ?rest_4; (case h2_4 => kernel_rfl); (case h3_4 => kernel_rfl); (case ho_4 => (simp only [List.getElem?_toArray, List.getElem?_cons_zero, List.getElem?_cons_succ]; rfl)); (case h1_4 => kernel_rfl); (case hq_4 => exact fun _ _ _ h => h); (case hw_4 => rfl); (case hy_4 => (intro w' hSw; (try simp only [S] at hSw); go_simp; (try with_reducible rfl))); (case hs_4 => assumption); (try simp only [Act.put, List.setIfInBounds_toArray, List.set_cons_zero, List.set_cons_succ])
  refine wpAnyH_take (i := 4) (oi := ?oi_5) (v := ?v_5) ?ho_5 ?h1_5 ?h2_5 ?h3_5 ?hq_5 (Or.inl ⟨?hw_5, ?hy_5⟩) ?hs_5 ?rest_5; (case h2_5 => kernel_rfl); (case h3_5 => kernel_rfl); (case ho_5 => (simp only [List.getElem?_toArray, List.getElem?_cons_zero, List.getElem?_cons_succ]; rfl)); (case h1_5 => kernel_rfl); (case hq_5 => exact fun _ _ _ h => h); (case hw_5 => rfl); (case hy_5 => (intro w' hSw; (try simp only [S] at hSw); go_simp; (try with_reducible rfl))); (case hs_5 => assumption); (try simp only [Act.put, List.setIfInBounds_toArray, List.set_cons_zero, List.set_cons_succ])
  refine wpAnyH_take (i := 5) (oi := ?oi_6) (v := ?v_6) ?ho_6 ?h1_6 ?h2_6 ?h3_6 ?hq_6 (Or.inl ⟨?hw_6, ?hy_6⟩) ?hs_6 ?rest_6; (case h2_6 => kernel_rfl); (case h3_6 => kernel_rfl); (case ho_6 => (simp only [List.getElem?_toArray, List.getElem?_cons_zero, List.getElem?_cons_succ]; rfl)); (case h1_6 => kernel_rfl); (case hq_6 => exact fun _ _ _ h => h); (case hw_6 => rfl); (case hy_6 => (intro w' hSw; (try simp only [S] at hSw); go_simp; (try with_reducible rfl))); (case hs_6 => assumption); (try simp only [Act.put, List.setIfInBounds_toArray, List.set_cons_zero, List.set_cons_succ])
  refine wpAnyH_take (i := 6) (oi := ?oi_7) (v := ?v_7) ?ho_7 ?h1_7 ?h2_7 ?h3_7 ?hq_7 (Or.inl ⟨?hw_7, ?hy_7⟩) ?hs_7 ?rest_7; (case h2_7 => kernel_rfl); (case h3_7 => kernel_rfl); (case ho_7 => (simp only [List.getElem?_toArray, List.getElem?_cons_zero, List.getElem?_cons_succ]; rfl)); (case h1_7 => kernel_rfl); (case hq_7 => exact fun _ _ _ h => h); (case hw_7 => rfl); (case hy_7 => (intro w' hSw; (try simp only [S] at hSw); go_simp; (try with_reducible rfl))); (case hs_7 => assumption); (try simp only [Act.put, List.setIfInBounds_toArray, List.set_cons_zero, List.set_cons_succ])
  refine wpAnyH_take (i := 7) (oi := ?oi_8) (v := ?v_8) ?ho_8 ?h1_8 ?h2_8 ?h3_8 ?hq_8 (Or.inl ⟨?hw_8, ?hy_8⟩) ?hs_8 ?rest_8; (case h2_8 => kernel_rfl); (case h3_8 => kernel_rfl); (case ho_8 => (simp only [List.getElem?_toArray, List.getElem?_cons_zero, List.getElem?_cons_succ]; rfl)); (case h1_8 => kernel_rfl); (case hq_8 => exact fun _ _ _ h => h); (case hw_8 => rfl); (case hy_8 => (intro w' hSw; (try simp only [S] at hSw); go_simp; (try with_reducible rfl))); (case hs_8 => assumption); (try simp only [Act.put, List.setIfInBounds_toArray, List.set_cons_zero, List.set_cons_succ])
  refine wpAnyH_take (i := 8) (oi := ?oi_9) (v := ?v_9) ?ho_9 ?h1_9 ?h2_9 ?h3_9 ?hq_9 (Or.inl ⟨?hw_9, ?hy_9⟩) ?hs_9 ?rest_9; (case h2_9 => kernel_rfl); (case h3_9 => kernel_rfl); (case ho_9 => (simp only [List.getElem?_toArray, List.getElem?_cons_zero, List.getElem?_cons_succ]; rfl)); (case h1_9 => kernel_rfl); (case hq_9 => exact fun _ _ _ h => h); (case hw_9 => rfl); (case hy_9 => (intro w' hSw; (try simp only [S] at hSw); go_simp; (try with_reducible rfl))); (case hs_9 => assumption); (try simp only [Act.put, List.setIfInBounds_toArray, List.set_cons_zero, List.set_cons_succ])
  refine wpAnyH_take (i := 9) (oi := ?oi_10) (v := ?v_10) ?ho_10 ?h1_10 ?h2_10 ?h3_10 ?hq_10 (Or.inl ⟨?hw_10, ?hy_10⟩) ?hs_10 ?rest_10; (case h2_10 => kernel_rfl); (case h3_10 => kernel_rfl); (case ho_10 => (simp only [List.getElem?_toArray, List.getElem?_cons_zero, List.getElem?_cons_succ]; rfl)); (case h1_10 => kernel_rfl); (case hq_10 => exact fun _ _ _ h => h); (case hw_10 => rfl); (case hy_10 => (intro w' hSw; (try simp only [S] at hSw); go_simp; (try with_reducible rfl))); (case hs_10 => assumption); (try simp only [Act.put, List.setIfInBounds_toArray, List.set_cons_zero, List.set_cons_succ])
  refine wpAnyH_take (i := 10) (oi := ?oi_30) (v := ?v_30) ?ho_30 ?h1_30 ?h2_30 ?h3_30 ?hq_30 (Or.inl ⟨?hw_30, ?hy_30⟩) ?hs_30 ?rest_30; (case h2_30 => kernel_rfl); (case h3_30 => kernel_rfl); (case ho_30 => (simp only [List.getElem?_toArray, List.getElem?_cons_zero, List.getElem?_cons_succ]; rfl)); (case h1_30 => kernel_rfl); (case hq_30 => exact fun _ _ _ h => h); (case hw_30 => rfl); (case hy_30 => (intro w' hSw; refine exec_built (t := 46) (cs := #[.int .i64 next, .slice none 0 0]) (parts := #[(0, .tmp 34)]) ?_ ?_ w'; exact rfl; simp only [List.map_toArray, List.map_cons, List.map_nil]; exact hbt)); (case hs_30 => assumption); (try simp only [Act.put, List.setIfInBounds_toArray, List.set_cons_zero, List.set_cons_succ])
  refine wpAnyH_ready (rs := [11]) (by kernel_rfl) (by simp) (AllReadyH.cons (o := ?oo11_32) ?hoo11_32 (fun K hK => ?steponly32) AllReadyH.nil); (case hoo11_32 => (simp only [List.getElem?_toArray, List.getElem?_cons_zero, List.getElem?_cons_succ]; rfl))
  refine step_new rfl hz rfl ?_
  refine hK.out _ _ (hSS _ ((Below.refl _ W).drew.alloc (Nat.le_refl _) _)) (fun _ => ?_)
  clear hK K
  (try simp only [Act.put, List.setIfInBounds_toArray, List.set_cons_zero, List.set_cons_succ])
  refine wpAnyH_ready (rs := [12]) (by kernel_rfl) (by simp) (AllReadyH.cons (o := ?oo12_33) ?hoo12_33 (fun K hK => ?steponly33) AllReadyH.nil); (case hoo12_33 => (simp only [List.getElem?_toArray, List.getElem?_cons_zero, List.getElem?_cons_succ]; rfl))
  refine step_row rfl 46 (.tmp 4) (.tmp 35) rfl W.heap.size #[.int .i64 next, .slice none 0 0] rfl rfl _ #[.int .i64 0, .slice none 0 0] (heap_alloc_new W.drew _) (lg_info _ _) rfl (one_lg _ _ _ _) ?_
  have hbV : Below W.heap.size W ((W.drew.alloc (.cells #[.int .i64 0, .slice none 0 0] 46)).setRow W.heap.size #[.int .i64 next, .slice none 0 0]) := bSetRow ((Below.refl _ W).drew.alloc (Nat.le_refl _) _) (Nat.le_refl _) _
  refine hK.out _ _ (hSS _ hbV) (fun _ => ?_)
  clear hK K
  (try simp only [Act.put, List.setIfInBounds_toArray, List.set_cons_zero, List.set_cons_succ])
  refine wpAnyH_done (by kernel_rfl) ?_ _
  have g4 : ((W.drew.alloc (.cells #[.int .i64 0, .slice none 0 0] 46)).setRow W.heap.size #[.int .i64 next, .slice none 0 0]).heap[W.heap.size]? = some (.cells #[.int .i64 next, .slice none 0 0] 46) := setRow_heap _ _ _ _ _ _ (heap_alloc_new W.drew _)
  clear hSS hS0 w0 w1 w5 w7 l0 l1 hbt i1 i5 j1
  generalize (W.drew.alloc (.cells #[.int .i64 0, .slice none 0 0] 46)).setRow W.heap.size #[.int .i64 next, .slice none 0 0] = V0 at *
  go_wp2_with fail
  go_loopw [5] (fun vi wr => ∃ k : Nat, k ≤ cnt ∧ vi = .int .i64 k ∧ Below W.heap.size W wr ∧ ∃ A c', wr.heap[W.heap.size]? = some (.cells #[.int .i64 next, .slice A k c'] 46) ∧ wr.ownsRow (W.heap.size + 1) 66 33 (.slice A k c') k (les ((List.range k).map (decE l)))) (fun vi _ => cnt - (intOf vi).toNat)
  case atStart => exact ⟨0, by omega, rfl, hbV, none, 0, g4, World.ownsRow_nil _ _ _ _⟩
  case round =>
    clear hbV g4
    obtain ⟨k, hk, rfl, hbr, A, c', g4, hown⟩ := hrel
    have k2r := (hbr.cell (p := ⟨b, o + 2, none⟩) (by show b < _; omega)).trans k2
    have hGr := (Array.getElem?_eq_some_iff.1 g4).1
    by_cases hlt : k < cnt
    · have hx := decE_ok (b := l) (k := k) (cnt := cnt) (by rw [HD.out.2.2.2]; exact HN2.out.1) hlt
      have hk34 : (k + 1) * 34 ≤ cnt * 34 := Nat.mul_le_mul_right _ hlt
      obtain ⟨a, ha⟩ : ∃ a, 3 + k * 34 = a := ⟨_, rfl⟩
      have han : a + 34 ≤ n := by have := HN2.out.1; omega
      have hwr : Below w.heap.size w wr := hBW.trans (hbr.mono (by omega))
      have hslr := HD.out.2.1.below (hwr.mono hB)
      have ka := hslr.cellAt rfl (i := a) (by omega)
      have ka1 := hslr.cellAt rfl (i := a + 1) (by omega)
      have la := (at8 l a).toNat_lt
      have la1 := (at8 l (a + 1)).toNat_lt
      have hnum : ((at8 l a).toNat : Int) * 256 + ((at8 l (a + 1)).toNat : Int) = (decE l k).num := by
        show _ = ((n16 l (3 + k * 34) : Nat) : Int)
        rw [ha]
        show _ = (((at8 l a).toNat * 256 + (at8 l (a + 1)).toNat : Nat) : Int)
        omega
      have hrK := range_cut (bRange hwr hbw HD.out.2.2.1) (a + 2) 32
      rw [show ((bvs l).drop (a + 2)).take 32 = bvs (decE l k).key from by
        show _ = bvs ((l.drop (3 + k * 34 + 2)).take 32)
        rw [ha]
        simp [bvs, List.map_take, List.map_drop]] at hrK
      have hsn := range_snoc l k
      have hkey := hx.key
      obtain ⟨x, hxe⟩ : ∃ x, decE l k = x := ⟨_, rfl⟩
      rw [hxe] at hx hnum hrK hsn hkey
      generalize (at8 l a).toNat = P at *
      generalize (at8 l (a + 1)).toNat = Q at *
      have w0 : IntKind.i64.wrap (P : Int) = P := wrap_small _ (by omega) (by omega)
      have w1 : IntKind.i64.wrap (Q : Int) = Q := wrap_small _ (by omega) (by omega)
      have w5 : IntKind.i64.wrap ((P : Int) * 256) = P * 256 := wrap_small _ (by omega) (by omega)
      have w7 : IntKind.i64.wrap ((P : Int) * 256 + Q) = x.num := by rw [← hnum]; exact wrap_small _ (by omega) (by omega)
      have hA : (3 : Int) + 34 * (k : Int) = (a : Int) := by omega
      have wa1 : IntKind.i64.wrap ((a : Int) + 1) = (a : Int) + 1 := wrap_small _ (by omega) (by omega)
      have wa2 : IntKind.i64.wrap ((a : Int) + 2) = (a : Int) + 2 := wrap_small _ (by omega) (by omega)
      have na1 : ((a : Int) + 1).toNat = a + 1 := by omega
      have na2 : ((a : Int) + 2).toNat = a + 2 := by omega
      have pa1 : (0 : Int) ≤ (a : Int) + 1 := by omega
      have pa2 : (0 : Int) ≤ (a : Int) + 2 := by omega
      have qa0 : (a : Int) < (n : Int) := by omega
      have qa1 : (a : Int) + 1 < (n : Int) := by omega
      have qa2 : (a : Int) + 2 ≤ (n : Int) := by omega
      have ra0 : a < n := by omega
      have ra1 : a + 1 < n := by omega
      have ra2 : a + 2 ≤ n := by omega
      have hc2 : ¬ c = a + 2 := by omega
      have hi1 : (k : Int) < (cnt : Int) := by omega
      have hbt := built_le1 x.num
      have hzE := leZ
      have hone1 := one_le (LE.mk x.num (List.replicate 32 0))
      obtain ⟨c1, hc1⟩ : ∃ q, (LE.mk x.num (List.replicate 32 0)).cells.toArray = q := ⟨_, rfl⟩
      have h33 : c1.size = 33 := by rw [← hc1]; simp [LE.cells, bvs_len]
      have hfill := le_fill x.num hkey
      have hone1' : c1.all (·.oneCell') = true := by rw [← hc1]; exact all_oneCell_toArray hone1
      rw [hc1] at hbt hfill
      have hz0 : le0.cells.toArray.size = c1.size := by rw [h33, List.size_toArray, le0_ok.len]
      have hi33 : (Try.prog.info? 66).map (·.size) = some c1.size := by rw [h33]; exact le_size
      have HH := Lib.hid (And.intro hsn (And.intro hxe (And.intro hfill (And.intro ha hnum))))
      have HG := Lib.hid (And.intro hbr (And.intro hown g4))
      clear hsn hxe hfill ha hnum hone1 hc1 hslr la la1 hbr hown hk34
      go_upto_region 8 with (fail)
      let S : World → Prop := fun w' => w'.cell? ⟨b, o + a, none⟩ = some (.int .u8 (P : Int)) ∧ w'.cell? ⟨b, o + (a + 1), none⟩ = some (.int .u8 (Q : Int))
      have hSS : ∀ w', Below wr.heap.size wr w' → S w' := fun w' h => ⟨(h.cell (p := ⟨b, o + a, none⟩) (by show b < _; omega)).trans ka, (h.cell (p := ⟨b, o + (a + 1), none⟩) (by show b < _; omega)).trans ka1⟩
      have hS0 : S wr.drew := hSS _ (Below.refl _ _).drew
      clear ka ka1
      refine wp_region_held (S := S) (by kernel_rfl) ?_
      change wpAnyH _ _ _ _ S _ _ _ wr.drew
      refine wpAnyH_take (i := 0) (oi := ?oi_11) (v := ?v_11) ?ho_11 ?h1_11 ?h2_11 ?h3_11 ?hq_11 (Or.inl ⟨?hw_11, ?hy_11⟩) ?hs_11 ?rest_11; (case h2_11 => kernel_rfl); (case h3_11 => kernel_rfl); (case ho_11 => (simp only [List.getElem?_toArray, List.getElem?_cons_zero, List.getElem?_cons_succ]; rfl)); (case h1_11 => kernel_rfl); (case hq_11 => exact fun _ _ _ h => h); (case hw_11 => rfl); (case hy_11 => (intro w' hSw; (try simp only [S] at hSw); go_simp; (try with_reducible rfl))); (case hs_11 => assumption); (try simp only [Act.put, List.setIfInBounds_toArray, List.set_cons_zero, List.set_cons_succ])
      refine wpAnyH_take (i := 1) (oi := ?oi_12) (v := ?v_12) ?ho_12 ?h1_12 ?h2_12 ?h3_12 ?hq_12 (Or.inl ⟨?hw_12, ?hy_12⟩) ?hs_12 ?rest_12; (case h2_12 => kernel_rfl); (case h3_12 => kernel_rfl); (case ho_12 => (simp only [List.getElem?_toArray, List.getElem?_cons_zero, List.getElem?_cons_succ]; rfl)); (case h1_12 => kernel_rfl); (case hq_12 => exact fun _ _ _ h => h); (case hw_12 => rfl); (case hy_12 => (intro w' hSw; (try simp only [S] at hSw); go_simp; (try with_reducible rfl))); (case hs_12 => assumption); (try simp only [Act.put, List.setIfInBounds_toArray, List.set_cons_zero, List.set_cons_succ])
      refine wpAnyH_take (i := 2) (oi := ?oi_13) (v := ?v_13) ?ho_13 ?h1_13 ?h2_13 ?h3_13 ?hq_13 (Or.inl ⟨?hw_13, ?hy_13⟩) ?hs_13 ?rest_13; (case h2_13 => kernel_rfl); (case h3_13 => kernel_rfl); (case ho_13 => (simp only [List.getElem?_toArray, List.getElem?_cons_zero, List.getElem?_cons_succ]; rfl)); (case h1_13 => kernel_rfl); (case hq_13 => exact fun _ _ _ h => h); (case hw_13 => rfl); (case hy_13 => (intro w' hSw; (try simp only [S] at hSw); go_simp; (try with_reducible rfl))); (case hs_13 => assumption); (try simp only [Act.put, List.setIfInBounds_toArray, List.set_cons_zero, List.set_cons_succ])
      refine wpAnyH_take (i := 3) (oi := ?oi_14) (v := ?v_14) ?ho_14 ?h1_14 ?h2_14 ?h3_14 ?hq_14 (Or.inl ⟨?hw_14, ?hy_14⟩) ?hs_14 ?rest_14; (case h2_14 => kernel_rfl); (case h3_14 => kernel_rfl); (case ho_14 => (simp only [List.getElem?_toArray, List.getElem?_cons_zero, List.getElem?_cons_succ]; rfl)); (case h1_14 => kernel_rfl); (case hq_14 => exact fun _ _ _ h => h); (case hw_14 => rfl); (case hy_14 => (intro w' hSw; (try simp only [S] at hSw); go_simp; (try with_reducible rfl))); (case hs_14 => assumption); (try simp only [Act.put, List.setIfInBounds_toArray, List.set_cons_zero, List.set_cons_succ])
      refine wpAnyH_take (i := 4) (oi := ?oi_15) (v := ?v_15) ?ho_15 ?h1_15 ?h2_15 ?h3_15 ?hq_15 (Or.inl ⟨?hw_15, ?hy_15⟩) ?hs_15 ?rest_15; (case h2_15 => kernel_rfl); (case h3_15 => kernel_rfl); (case ho_15 => (simp only [List.getElem?_toArray, List.getElem?_cons_zero, List.getElem?_cons_succ]; rfl)); (case h1_15 => kernel_rfl); (case hq_15 => exact fun _ _ _ h => h); (case hw_15 => rfl); (case hy_15 => (intro w' hSw; (try simp only [S] at hSw); go_simp; (try with_reducible rfl))); (case hs_15 => assumption); (try simp only [Act.put, List.setIfInBounds_toArray, List.set_cons_zero, List.set_cons_succ])
      refine wpAnyH_take (i := 5) (oi := ?oi_16) (v := ?v_16) ?ho_16 ?h1_16 ?h2_16 ?h3_16 ?hq_16 (Or.inl ⟨?hw_16, ?hy_16⟩) ?hs_16 ?rest_16; (case h2_16 => kernel_rfl); (case h3_16 => kernel_rfl); (case ho_16 => (simp only [List.getElem?_toArray, List.getElem?_cons_zero, List.getElem?_cons_succ]; rfl)); (case h1_16 => kernel_rfl); (case hq_16 => exact fun _ _ _ h => h); (case hw_16 => rfl); (case hy_16 => (intro w' hSw; (try simp only [S] at hSw); go_simp; (try with_reducible rfl))); (case hs_16 => assumption); (try simp only [Act.put, List.setIfInBounds_toArray, List.set_cons_zero, List.set_cons_succ])
      refine wpAnyH_take (i := 6) (oi := ?oi_17) (v := ?v_17) ?ho_17 ?h1_17 ?h2_17 ?h3_17 ?hq_17 (Or.inl ⟨?hw_17, ?hy_17⟩) ?hs_17 ?rest_17; (case h2_17 => kernel_rfl); (case h3_17 => kernel_rfl); (case ho_17 => (simp only [List.getElem?_toArray, List.getElem?_cons_zero, List.getElem?_cons_succ]; rfl)); (case h1_17 => kernel_rfl); (case hq_17 => exact fun _ _ _ h => h); (case hw_17 => rfl); (case hy_17 => (intro w' hSw; (try simp only [S] at hSw); go_simp; (try with_reducible rfl))); (case hs_17 => assumption); (try simp only [Act.put, List.setIfInBounds_toArray, List.set_cons_zero, List.set_cons_succ])
      refine wpAnyH_take (i := 7) (oi := ?oi_18) (v := ?v_18) ?ho_18 ?h1_18 ?h2_18 ?h3_18 ?hq_18 (Or.inl ⟨?hw_18, ?hy_18⟩) ?hs_18 ?rest_18; (case h2_18 => kernel_rfl); (case h3_18 => kernel_rfl); (case ho_18 => (simp only [List.getElem?_toArray, List.getElem?_cons_zero, List.getElem?_cons_succ]; rfl)); (case h1_18 => kernel_rfl); (case hq_18 => exact fun _ _ _ h => h); (case hw_18 => rfl); (case hy_18 => (intro w' hSw; (try simp only [S] at hSw); go_simp; (try with_reducible rfl))); (case hs_18 => assumption); (try simp only [Act.put, List.setIfInBounds_toArray, List.set_cons_zero, List.set_cons_succ])
      refine wpAnyH_take (i := 8) (oi := ?oi_19) (v := ?v_19) ?ho_19 ?h1_19 ?h2_19 ?h3_19 ?hq_19 (Or.inl ⟨?hw_19, ?hy_19⟩) ?hs_19 ?rest_19; (case h2_19 => kernel_rfl); (case h3_19 => kernel_rfl); (case ho_19 => (simp only [List.getElem?_toArray, List.getElem?_cons_zero, List.getElem?_cons_succ]; rfl)); (case h1_19 => kernel_rfl); (case hq_19 => exact fun _ _ _ h => h); (case hw_19 => rfl); (case hy_19 => (intro w' hSw; (try simp only [S] at hSw); go_simp; (try with_reducible rfl))); (case hs_19 => assumption); (try simp only [Act.put, List.setIfInBounds_toArray, List.set_cons_zero, List.set_cons_succ])
      refine wpAnyH_take (i := 9) (oi := ?oi_20) (v := ?v_20) ?ho_20 ?h1_20 ?h2_20 ?h3_20 ?hq_20 (Or.inl ⟨?hw_20, ?hy_20⟩) ?hs_20 ?rest_20; (case h2_20 => kernel_rfl); (case h3_20 => kernel_rfl); (case ho_20 => (simp only [List.getElem?_toArray, List.getElem?_cons_zero, List.getElem?_cons_succ]; rfl)); (case h1_20 => kernel_rfl); (case hq_20 => exact fun _ _ _ h => h); (case hw_20 => rfl); (case hy_20 => (intro w' hSw; (try simp only [S] at hSw); go_simp; (try with_reducible rfl))); (case hs_20 => assumption); (try simp only [Act.put, List.setIfInBounds_toArray, List.set_cons_zero, List.set_cons_succ])
      refine wpAnyH_take (i := 10) (oi := ?oi_21) (v := ?v_21) ?ho_21 ?h1_21 ?h2_21 ?h3_21 ?hq_21 (Or.inl ⟨?hw_21, ?hy_21⟩) ?hs_21 ?rest_21; (case h2_21 => kernel_rfl); (case h3_21 => kernel_rfl); (case ho_21 => (simp only [List.getElem?_toArray, List.getElem?_cons_zero, List.getElem?_cons_succ]; rfl)); (case h1_21 => kernel_rfl); (case hq_21 => exact fun _ _ _ h => h); (case hw_21 => rfl); (case hy_21 => (intro w' hSw; (try simp only [S] at hSw); go_simp; (try with_reducible rfl))); (case hs_21 => assumption); (try simp only [Act.put, List.setIfInBounds_toArray, List.set_cons_zero, List.set_cons_succ])
      refine wpAnyH_take (i := 11) (oi := ?oi_22) (v := ?v_22) ?ho_22 ?h1_22 ?h2_22 ?h3_22 ?hq_22 (Or.inl ⟨?hw_22, ?hy_22⟩) ?hs_22 ?rest_22; (case h2_22 => kernel_rfl); (case h3_22 => kernel_rfl); (case ho_22 => (simp only [List.getElem?_toArray, List.getElem?_cons_zero, List.getElem?_cons_succ]; rfl)); (case h1_22 => kernel_rfl); (case hq_22 => exact fun _ _ _ h => h); (case hw_22 => rfl); (case hy_22 => (intro w' hSw; (try simp only [S] at hSw); go_simp; (try with_reducible rfl))); (case hs_22 => assumption); (try simp only [Act.put, List.setIfInBounds_toArray, List.set_cons_zero, List.set_cons_succ])
      refine wpAnyH_take (i := 12) (oi := ?oi_23) (v := ?v_23) ?ho_23 ?h1_23 ?h2_23 ?h3_23 ?hq_23 (Or.inl ⟨?hw_23, ?hy_23⟩) ?hs_23 ?rest_23; (case h2_23 => kernel_rfl); (case h3_23 => kernel_rfl); (case ho_23 => (simp only [List.getElem?_toArray, List.getElem?_cons_zero, List.getElem?_cons_succ]; rfl)); (case h1_23 => kernel_rfl); (case hq_23 => exact fun _ _ _ h => h); (case hw_23 => rfl); (case hy_23 => (intro w' hSw; (try simp only [S] at hSw); go_simp; (try with_reducible rfl))); (case hs_23 => assumption); (try simp only [Act.put, List.setIfInBounds_toArray, List.set_cons_zero, List.set_cons_succ])
      refine wpAnyH_take (i := 13) (oi := ?oi_31) (v := ?v_31) ?ho_31 ?h1_31 ?h2_31 ?h3_31 ?hq_31 (Or.inl ⟨?hw_31, ?hy_31⟩) ?hs_31 ?rest_31; (case h2_31 => kernel_rfl); (case h3_31 => kernel_rfl); (case ho_31 => (simp only [List.getElem?_toArray, List.getElem?_cons_zero, List.getElem?_cons_succ]; rfl)); (case h1_31 => kernel_rfl); (case hq_31 => exact fun _ _ _ h => h); (case hw_31 => rfl); (case hy_31 => (intro w' hSw; refine exec_built (t := 66) (cs := c1) (parts := #[(0, .tmp 59)]) ?_ ?_ w'; exact rfl; simp only [List.map_toArray, List.map_cons, List.map_nil]; exact hbt)); (case hs_31 => assumption); (try simp only [Act.put, List.setIfInBounds_toArray, List.set_cons_zero, List.set_cons_succ])
      refine wpAnyH_ready (rs := [14]) (by kernel_rfl) (by simp) (AllReadyH.cons (o := ?oo14_34) ?hoo14_34 (fun K hK => ?steponly34) AllReadyH.nil); (case hoo14_34 => (simp only [List.getElem?_toArray, List.getElem?_cons_zero, List.getElem?_cons_succ]; rfl))
      refine step_new rfl hzE rfl ?_
      refine hK.out _ _ (hSS _ ((Below.refl _ wr).drew.alloc (Nat.le_refl _) _)) (fun _ => ?_)
      clear hK K
      (try simp only [Act.put, List.setIfInBounds_toArray, List.set_cons_zero, List.set_cons_succ])
      refine wpAnyH_ready (rs := [15]) (by kernel_rfl) (by simp) (AllReadyH.cons (o := ?oo15_35) ?hoo15_35 (fun K hK => ?steponly35) AllReadyH.nil); (case hoo15_35 => (simp only [List.getElem?_toArray, List.getElem?_cons_zero, List.getElem?_cons_succ]; rfl))
      refine step_row rfl 66 (.tmp 7) (.tmp 60) rfl wr.heap.size c1 rfl rfl _ le0.cells.toArray (heap_alloc_new wr.drew _) hi33 hz0 hone1' ?_
      have hbY : Below wr.heap.size wr ((wr.drew.alloc (.cells le0.cells.toArray 66)).setRow wr.heap.size c1) := bSetRow ((Below.refl _ wr).drew.alloc (Nat.le_refl _) _) (Nat.le_refl _) _
      refine hK.out _ _ (hSS _ hbY) (fun _ => ?_)
      clear hK K
      (try simp only [Act.put, List.setIfInBounds_toArray, List.set_cons_zero, List.set_cons_succ])
      refine wpAnyH_done (by kernel_rfl) ?_ _
      have g7 : ((wr.drew.alloc (.cells le0.cells.toArray 66)).setRow wr.heap.size c1).heap[wr.heap.size]? = some (.cells c1 66) := setRow_heap _ _ _ _ _ _ (heap_alloc_new wr.drew _)
      clear hSS hS0 w0 w1 w5 w7 hbt hzE
      generalize (wr.drew.alloc (.cells le0.cells.toArray 66)).setRow wr.heap.size c1 = Y0 at *
      have hbwr : b < wr.heap.size := by omega
      have hrK0 := bRange hbY hbwr hrK
      have hcopy := fun ty => run_copy_cells (P := Try.prog) Y0.drew 24 24 ty 5 wr.heap.size 1 32 32 ⟨b, o + (a + 2), none⟩ (n - (a + 2)) (c - (a + 2)) (bvs x.key) Try.underlying24 (by kernel_rfl) (by rw [bvs_len, hkey]; exact (Nat.min_eq_right (by omega)).symm) (fun j v hj => by rw [addr_add]; exact hrK0 j v hj)
        (fun j hj => ((there_blk (W := Y0.drew) g7 (o := 1) (n := 32) (by rw [h33]; omega)) j (by rw [bvs_len, hkey] at hj; exact hj)).1) (fun j hj => blk_frozen (W := Y0.drew) g7 _) (oneCell_bvs _)
      rw [bvs_len, hkey] at hcopy
      have g7' := blk_sets (bvs x.key) 1 (W := Y0.drew) g7
      rw [HH.out.2.2.1] at g7'
      have hbY1 : Below wr.heap.size wr (Y0.drew.setCells wr.heap.size 1 (bvs x.key)) := (but_sets (X := fun k => k = wr.heap.size) _ _ _ ((but_of hbY).drew) rfl).below (Nat.le_refl _) (fun k e => by omega)
      go_upto_region 9 with (fail)
      let S : World → Prop := fun _ => True
      refine wp_region_held (S := S) (by kernel_rfl) ?_
      change wpAnyH _ _ _ _ S _ _ _ Y0.drew
      have hS1 : S Y0.drew := trivial
      refine wpAnyH_take (i := 0) (oi := ?oi_24) (v := ?v_24) ?ho_24 ?h1_24 ?h2_24 ?h3_24 ?hq_24 (Or.inl ⟨?hw_24, ?hy_24⟩) ?hs_24 ?rest_24; (case h2_24 => kernel_rfl); (case h3_24 => kernel_rfl); (case ho_24 => (simp only [List.getElem?_toArray, List.getElem?_cons_zero, List.getElem?_cons_succ]; rfl)); (case h1_24 => kernel_rfl); (case hq_24 => exact fun _ _ _ h => h); (case hw_24 => rfl); (case hy_24 => (intro w' hSw; (try simp only [S] at hSw); go_simp; (try with_reducible rfl))); (case hs_24 => assumption); (try simp only [Act.put, List.setIfInBounds_toArray, List.set_cons_zero, List.set_cons_succ])
      refine wpAnyH_take (i := 1) (oi := ?oi_25) (v := ?v_25) ?ho_25 ?h1_25 ?h2_25 ?h3_25 ?hq_25 (Or.inl ⟨?hw_25, ?hy_25⟩) ?hs_25 ?rest_25; (case h2_25 => kernel_rfl); (case h3_25 => kernel_rfl); (case ho_25 => (simp only [List.getElem?_toArray, List.getElem?_cons_zero, List.getElem?_cons_succ]; rfl)); (case h1_25 => kernel_rfl); (case hq_25 => exact fun _ _ _ h => h); (case hw_25 => rfl); (case hy_25 => (intro w' hSw; (try simp only [S] at hSw); go_simp; (try with_reducible rfl))); (case hs_25 => assumption); (try simp only [Act.put, List.setIfInBounds_toArray, List.set_cons_zero, List.set_cons_succ])
      refine wpAnyH_take (i := 2) (oi := ?oi_26) (v := ?v_26) ?ho_26 ?h1_26 ?h2_26 ?h3_26 ?hq_26 (Or.inl ⟨?hw_26, ?hy_26⟩) ?hs_26 ?rest_26; (case h2_26 => kernel_rfl); (case h3_26 => kernel_rfl); (case ho_26 => (simp only [List.getElem?_toArray, List.getElem?_cons_zero, List.getElem?_cons_succ]; rfl)); (case h1_26 => kernel_rfl); (case hq_26 => exact fun _ _ _ h => h); (case hw_26 => rfl); (case hy_26 => (intro w' hSw; (try simp only [S] at hSw); go_simp; (try with_reducible rfl))); (case hs_26 => assumption); (try simp only [Act.put, List.setIfInBounds_toArray, List.set_cons_zero, List.set_cons_succ])
      refine wpAnyH_take (i := 3) (oi := ?oi_27) (v := ?v_27) ?ho_27 ?h1_27 ?h2_27 ?h3_27 ?hq_27 (Or.inl ⟨?hw_27, ?hy_27⟩) ?hs_27 ?rest_27; (case h2_27 => kernel_rfl); (case h3_27 => kernel_rfl); (case ho_27 => (simp only [List.getElem?_toArray, List.getElem?_cons_zero, List.getElem?_cons_succ]; rfl)); (case h1_27 => kernel_rfl); (case hq_27 => exact fun _ _ _ h => h); (case hw_27 => rfl); (case hy_27 => (intro w' hSw; (try simp only [S] at hSw); go_simp; (try with_reducible rfl))); (case hs_27 => assumption); (try simp only [Act.put, List.setIfInBounds_toArray, List.set_cons_zero, List.set_cons_succ])
      refine wpAnyH_take (i := 4) (oi := ?oi_28) (v := ?v_28) ?ho_28 ?h1_28 ?h2_28 ?h3_28 ?hq_28 (Or.inl ⟨?hw_28, ?hy_28⟩) ?hs_28 ?rest_28; (case h2_28 => kernel_rfl); (case h3_28 => kernel_rfl); (case ho_28 => (simp only [List.getElem?_toArray, List.getElem?_cons_zero, List.getElem?_cons_succ]; rfl)); (case h1_28 => kernel_rfl); (case hq_28 => exact fun _ _ _ h => h); (case hw_28 => rfl); (case hy_28 => (intro w' hSw; (try simp only [S] at hSw); go_simp; (try with_reducible rfl))); (case hs_28 => assumption); (try simp only [Act.put, List.setIfInBounds_toArray, List.set_cons_zero, List.set_cons_succ])
      refine wpAnyH_take (i := 5) (oi := ?oi_29) (v := ?v_29) ?ho_29 ?h1_29 ?h2_29 ?h3_29 ?hq_29 (Or.inl ⟨?hw_29, ?hy_29⟩) ?hs_29 ?rest_29; (case h2_29 => kernel_rfl); (case h3_29 => kernel_rfl); (case ho_29 => (simp only [List.getElem?_toArray, List.getElem?_cons_zero, List.getElem?_cons_succ]; rfl)); (case h1_29 => kernel_rfl); (case hq_29 => exact fun _ _ _ h => h); (case hw_29 => rfl); (case hy_29 => (intro w' hSw; (try simp only [S] at hSw); go_simp; (try with_reducible rfl))); (case hs_29 => assumption); (try simp only [Act.put, List.setIfInBounds_toArray, List.set_cons_zero, List.set_cons_succ])
      refine wpAnyH_ready (rs := [6]) (by kernel_rfl) (by simp) (AllReadyH.cons (o := ?oo6_36) ?hoo6_36 (fun K hK => ?steponly36) AllReadyH.nil); (case hoo6_36 => (simp only [List.getElem?_toArray, List.getElem?_cons_zero, List.getElem?_cons_succ]; rfl))
      go_simp
      refine hK.out _ _ trivial (fun _ => ?_)
      clear hK K hcopy hS1
      (try simp only [Act.put, List.setIfInBounds_toArray, List.set_cons_zero, List.set_cons_succ])
      refine wpAnyH_done (by kernel_rfl) ?_ _
      generalize Y0.drew.setCells wr.heap.size 1 (bvs x.key) = Y at *
      clear hbY g7 hrK0 hrK
      obtain ⟨hbr, hown, g4⟩ := HG.out
      have hownY := own_below hown hbY1
      have g4Y := bBlk hbY1 hGr g4
      have q1 := blk_cell g4Y (k := 1) rfl
      have f1 := blk_frozen g4Y 1
      have hxl := hx.len
      have hEl : (LE.mk x.num x.key).cells = x.cells := rfl
      rw [hEl] at g7'
      have hzY := (Array.getElem?_eq_some_iff.1 g7').1
      have hWY : W.heap.size < Y.heap.size := by omega
      have hii := le_info hx
      have honeX := one_le x
      obtain ⟨cl, hcl⟩ : ∃ q, x.cells = q := ⟨_, rfl⟩
      rw [hcl] at g7' hii honeX hxl
      obtain ⟨A', cz, wz, hrun, hown', hgrow, _⟩ := run_app (P := Try.prog) (Y.alloc (.cells cl.toArray 66)) (ty := 44) (t := 44) Try.underlying44 elemLE (hownY.alloc _) (Sl.new (n := 1) (heap_alloc_new _ _) (by simpa using hxl)) (c := 1) (by simpa using honeX) (by simp only [maxLen]; omega) (by omega) (by simp; omega)
      have hbs := run_slice1 (P := Try.prog) (t := 44) leZ Try.underlying44 (by rw [List.size_toArray, le0_ok.len]) (by omega) (by omega) cl hxl Y
      have hnO : ∀ q, (Value.slice A k c').ownBlock = some q → W.heap.size + 1 ≤ q := fun q hq => own_ge hownY q hq
      have g4z : wz.heap[W.heap.size]? = some (.cells #[.int .i64 next, .slice A k c'] 46) := (hgrow.block W.heap.size (by simp; omega) (fun e => by have := hnO _ e.symm; omega)).trans ((Below.heap_alloc _ _ _ hWY).trans g4Y)
      have f1z := blk_frozen g4z 1
      have q1z := blk_cell g4z (k := 1) rfl
      have gfin := blk_set g4z 1 (.slice A' (k + 1) cz)
      have hownF : (wz.setCell ⟨W.heap.size, 1, none⟩ (.slice A' (k + 1) cz)).ownsRow (W.heap.size + 1) 66 33 (.slice A' (k + 1) cz) (k + 1) (les ((List.range (k + 1)).map (decE l))) := by
        rw [HH.out.1, hcl]
        refine ⟨hown'.1, ?_⟩
        rcases hown'.2 with h | ⟨q, cap, cur, e, h2, h3, h4⟩
        · exact .inl h
        · exact .inr ⟨q, cap, cur, e, h2, (blk_far h3 (p := ⟨W.heap.size, 1, none⟩) _ (by show q ≠ W.heap.size; omega)), h4⟩
      have hbF : Below W.heap.size W (wz.setCell ⟨W.heap.size, 1, none⟩ (.slice A' (k + 1) cz)) := by
        have h1 : Below W.heap.size W Y := hbr.trans (hbY1.mono (by omega))
        have h2 : Below W.heap.size Y wz := ((Below.refl _ Y).alloc (by omega) _).trans ((Below.refl W.heap.size _).grown hgrow (by simp; omega) (fun q e => by have := hnO q e; omega))
        exact (h1.trans h2).setCell (p := ⟨W.heap.size, 1, none⟩) (Nat.le_refl _) _
      have HF2 := Lib.hid (And.intro gfin (And.intro hownF hbF))
      clear gfin hownF hbF hown' hgrow hownY hown g4 hbr g4Y g4z hnO hbY1 hA
      go_wp2_with (first
        | (refine wpList_load_row (o := ⟨some 70, _, _, _, _, _⟩) rfl 66 (.tmp 7) rfl _ rfl _ cl.toArray (0, 0) _ g7' Try.underlying66 rfl hii ?_)
        | fail)
      refine ⟨⟨k + 1, by omega, by omega, HF2.out.2.2, A', cz, HF2.out.1, HF2.out.2.1⟩, ?_⟩
      simp [intOf]; omega
    · obtain rfl : k = cnt := by omega
      have hi1 : ¬ (k : Int) < (k : Int) := by omega
      have hBc := hBW.trans (hbr.mono (by omega))
      have b2 := bBlk hbr hzW a2
      rw [HD.out.1] at hown
      have hok := hoky
      have hLg := LgAt.of_own hok hdl hown
      obtain ⟨A1, cc1, e1, hca, hcb⟩ := own_form hown
      simp only [Value.slice.injEq] at e1
      obtain ⟨rfl, -, rfl⟩ := e1
      generalize decL l = L at *
      have hG : W.heap.size ≤ W.heap.size := Nat.le_refl _
      have hrr := rlog_any (next := next) wr hLg (Nat.le_refl _)
      unfold lgv EncP at hrr
      have x0 := blk_cell g4 (k := 0) rfl
      have x1 := blk_cell g4 (k := 1) rfl
      have hGlt := (Array.getElem?_eq_some_iff.1 g4).1
      have HK := Lib.hid (And.intro hBc (And.intro b2 (And.intro (And.intro hown (And.intro hok hdl)) (And.intro g4 (And.intro hG hcb)))))
      clear k2 hok hdl hoky hBW hbr hown b2 hLg g4 hBc a2 hcb
      go_wp2_with fail
      refine Calls.mono hrr ?_
      rintro e X ⟨A2, n2, cc2, rfl, -, -, -, -, -, hbX⟩
      obtain ⟨hBc, b2, ⟨hown, hok, hdl⟩, g4, hG, hcb⟩ := HK.out
      have y4 := bBlk hbX hGlt g4
      have y2 := bBlk hbX (Array.getElem?_eq_some_iff.1 b2).1 b2
      have hBX := hBc.trans (hbX.mono hBc.size)
      have hownX := own_below hown hbX
      have hfin : ∀ cs, LgAt (X.setRow w.heap.size cs) (X.setRow w.heap.size cs).heap.size A k c' L := fun cs => LgAt.of_own hok hdl (own_setRow hownX (fun k e => by have := (hown.lt k e).1; omega) cs)
      obtain ⟨V, hV⟩ : ∃ V, X.setRow w.heap.size #[.int .i64 0, .slice none 0 0] = V := ⟨_, rfl⟩
      have v2 : V.heap[w.heap.size]? = some (.cells #[.int .i64 0, .slice none 0 0] 46) := by rw [← hV]; exact setRow_heap _ _ _ _ _ _ y2
      have hBV : Below w.heap.size w V := by rw [← hV]; exact bSetRow hBX (Nat.le_refl _) _
      obtain ⟨U, hU⟩ : ∃ V, X.setRow w.heap.size #[.int .i64 next, .slice A k c'] = V := ⟨_, rfl⟩
      have u2 : U.heap[w.heap.size]? = some (.cells #[.int .i64 next, .slice A k c'] 46) := by rw [← hU]; exact setRow_heap _ _ _ _ _ _ y2
      have hBU : Below w.heap.size w U := by rw [← hU]; exact bSetRow hBX (Nat.le_refl _) _
      have hLU := hfin #[.int .i64 next, .slice A k c']
      rw [hU] at hLU
      have hldV := run_loadVar_row (P := Try.prog) V _ _ 46 _ _ _ v2 Try.underlying46 rfl (lg_info _ _)
      have hldU := run_loadVar_row (P := Try.prog) U _ _ 46 _ _ _ u2 Try.underlying46 rfl (lg_info _ _)
      obtain ⟨g, hg⟩ : ∃ g, goodL next L = g := ⟨_, rfl⟩
      rw [hg] at hL
      rw [hg]
      have HZ := Lib.hid (And.intro hBV (And.intro hBU (And.intro hLU hcb)))
      have HL := Lib.hid hL
      clear hBV hBU hLU hcb hfin hownX hown hok hdl hBX hbX hBc b2 g4 v2 u2 hg hrr x0 x1 hG hL
      cases g
      · rw [show erF false = 11 from rfl]
        clear hldU hU
        go_wp2_with (first
          | (refine wpList_built rfl 46 #[] rfl (cs := #[.int .i64 0, .slice none 0 0]) (by simp only [List.map_toArray, List.map_nil]; exact built_lg0) ?_)
          | (refine wpList_store_row rfl 46 (.tmp 2) (.tmp 81) rfl _ #[.int .i64 0, .slice none 0 0] rfl rfl _ #[.int .i64 0, .slice none 0 0] y2 (lg_info _ _) rfl (one_lg _ _ _ _) ?_)
          | fail)
        try rw [hV]
        refine bodyPost_ret (by simp [results, Try.results27, Act.put, asAddr, Result.andThen, hldV]; try rfl) rfl ?_
        exact ldec_no HL.out HZ.out.1
      · rw [show erF true = 0 from rfl]
        clear hldV hV
        go_wp2_with (first
          | (refine wpList_load_row rfl 46 (.tmp 4) rfl _ rfl _ #[.int .i64 next, .slice A k c'] (0, 0) _ y4 Try.underlying46 rfl (lg_info _ _) ?_)
          | (refine wpList_store_row rfl 46 (.tmp 2) (.tmp 82) rfl _ #[.int .i64 next, .slice A k c'] rfl rfl _ #[.int .i64 0, .slice none 0 0] y2 (lg_info _ _) rfl (one_lg _ _ _ _) ?_)
          | fail)
        try rw [hU]
        refine bodyPost_ret (by simp [results, Try.results27, Act.put, asAddr, Result.andThen, hldU]; try rfl) rfl ?_
        refine ⟨A, k, c', ?_, ?_, HZ.out.2.2.2, HZ.out.2.1⟩
        · rw [hN.out, HL.out]; rfl
        · rw [hO.out, HL.out]; exact HZ.out.2.2.1
end Go.Proofs.Ytjfkaebikmnnaaa
