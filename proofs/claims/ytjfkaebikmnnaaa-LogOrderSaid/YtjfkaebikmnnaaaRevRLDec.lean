/- The walk over the reference's DecodeLog. -/
import Derived.Test.YtjfkaebikmnnaaaRevLDec
namespace Go.Proofs.Ytjfkaebikmnnaaa
set_option linter.unusedSimpArgs false
set_option linter.unusedVariables false
open Go.RowKit Go.Sort
attribute [-go_sem] Instr.buildSlice Builtin.append_

theorem les_snoc (L : List LE) (x : LE) : les (L ++ [x]) = les L ++ x.cells := by simp [les]
theorem le_zero_cells (z : Int) : (LE.mk z (List.replicate 32 0)).cells = .int .i64 z :: bvs (List.replicate 32 0) := rfl
theorem le_fill (z : Int) {K : List UInt8} (hK : K.length = 32) : setMany (LE.mk z (List.replicate 32 0)).cells.toArray 1 (bvs K) = (LE.mk z K).cells.toArray := by
  have := setMany_at (l := (LE.mk z (List.replicate 32 0)).cells) (x := [.int .i64 z]) (y := bvs (List.replicate 32 0)) (z := []) (v := bvs K) (o := 1) (by rw [List.append_nil]; rfl) rfl (by rw [bvs_len, bvs_len, hK]; simp)
  rw [this, List.append_nil]; rfl
theorem built_le1 (z : Int) : Try.prog.built 66 [(0, .int .i64 z)] = some (LE.mk z (List.replicate 32 0)).cells.toArray := by kernel_rfl
theorem built_lg1 (z : Int) : Try.prog.built 46 [(0, .int .i64 z)] = some #[.int .i64 z, .slice none 0 0] := by kernel_rfl
theorem decE_ok {b : List UInt8} {cnt k : Nat} (hl : b.length = 3 + cnt * 34) (hk : k < cnt) : (decE b k).Ok := by
  have := n16_lt b (3 + k * 34)
  refine ⟨?_, ?_⟩
  · show -9223372036854775808 ≤ ((n16 b (3 + k * 34) : Nat) : Int) ∧ ((n16 b (3 + k * 34) : Nat) : Int) ≤ 9223372036854775807
    omega
  · show ((b.drop (3 + k * 34 + 2)).take 32).length = 32
    rw [List.length_take, List.length_drop, hl]
    have : (k + 1) * 34 ≤ cnt * 34 := Nat.mul_le_mul_right _ hk
    omega
theorem range_snoc (b : List UInt8) (k : Nat) : les ((List.range (k + 1)).map (decE b)) = les ((List.range k).map (decE b)) ++ (decE b k).cells := by
  rw [List.range_succ, List.map_append, List.map_cons, List.map_nil, les_snoc]

set_option maxHeartbeats 16000000 in
set_option maxRecDepth 100000 in
theorem rldec_full {b o n c B cnt : Nat} {l : List UInt8} (w : World) (hn : n = 3 + cnt * 34) (hcnt : (at8 l 2).toNat = cnt) (hs : Sl w B 1 (some ⟨b, o, none⟩) n (bvs l)) (hB : B ≤ w.heap.size) (hnc : n ≤ c) (hcm : c ≤ maxLen) : Calls Try.prog 27 #[.slice (some ⟨b, o, none⟩) n c] w (LDec w l) := by
  have hl : l.length = n := by have := hs.len; rw [bvs_len] at this; omega
  obtain ⟨b', o', e, hb, hr⟩ := hs.at_ (by omega)
  simp only [Option.some.injEq, Addr.mk.injEq, and_true] at e
  obtain ⟨rfl, rfl⟩ := e
  have k0 := hs.cellAt rfl (i := 0) (by omega)
  have k1 := hs.cellAt rfl (i := 1) (by omega)
  have k2 := hs.cellAt rfl (i := 2) (by omega)
  rw [Nat.add_zero] at k0
  have l0 := (at8 l 0).toNat_lt
  have l1 := (at8 l 1).toNat_lt
  have l2 := (at8 l 2).toNat_lt
  have hbw : b < w.heap.size := by omega
  have hdd : (List.range cnt).map (decE l) = decL l := by unfold decL; rw [hcnt]
  have hoky : ∀ y ∈ decL l, y.Ok := by
    intro y hy
    rw [← hdd] at hy
    obtain ⟨z, hz, rfl⟩ := List.mem_map.1 hy
    exact decE_ok (by rw [hl, hn]) (List.mem_range.1 hz)
  have hdl : (decL l).length = cnt := by rw [← hdd, List.length_map, List.length_range]
  have hL : isL l = goodL (n16 l 0) (decL l) := by unfold isL; rw [decide_eq_true ⟨by omega, by rw [hcnt, hl, hn]⟩]; rfl
  have hnxt : ((at8 l 0).toNat : Int) * 256 + ((at8 l 1).toNat : Int) = ((n16 l 0 : Nat) : Int) := by
    show _ = (((at8 l 0).toNat * 256 + (at8 l 1).toNat : Nat) : Int)
    omega
  have h16 := n16_lt l 0
  obtain ⟨next, hnx⟩ : ∃ z : Int, ((n16 l 0 : Nat) : Int) = z := ⟨_, rfl⟩
  have hN : Hid (nextOf l = if isL l then next else 0) := Lib.hid (by unfold nextOf; rw [hnx])
  have hO : Hid (logOf l = if isL l then decL l else []) := Lib.hid rfl
  rw [hnx] at hL hnxt
  rw [hcnt] at k2 l2
  have HD := Lib.hid (And.intro hdd (And.intro hs (And.intro hr hl)))
  clear hcnt hr hdd
  generalize (at8 l 0).toNat = X0 at *
  generalize (at8 l 1).toNat = X1 at *
  have w0 : IntKind.i64.wrap (X0 : Int) = X0 := wrap_small _ (by omega) (by omega)
  have w1 : IntKind.i64.wrap (X1 : Int) = X1 := wrap_small _ (by omega) (by omega)
  have w5 : IntKind.i64.wrap ((X0 : Int) * 256) = X0 * 256 := wrap_small _ (by omega) (by omega)
  have w7 : IntKind.i64.wrap ((X0 : Int) * 256 + X1) = next := by rw [← hnxt]; exact wrap_small _ (by omega) (by omega)
  have hnp : 0 ≤ next ∧ next ≤ 65535 := by omega
  have hbt := built_lg1 next
  clear hnxt hnx h16 hs
  have i1 : ¬ (n : Int) < 3 := by omega
  have i4 : (n : Int) = 3 + 34 * (cnt : Int) := by omega
  have i5 : ((n : Int) != 3 + 34 * (cnt : Int)) = false := by rw [i4]; simp
  have i7 : 2 < n := by omega
  have i8 : 1 < n := by omega
  have i9 : 0 < n := by omega
  have i10 : (1 : Int) < (n : Int) := by omega
  have i11 : (2 : Int) < (n : Int) := by omega
  have j1 : IntKind.i64.wrap (34 * (cnt : Int)) = 34 * (cnt : Int) := wrap_small _ (by omega) (by omega)
  have hz := lgZ
  have HN2 := Lib.hid (And.intro hn i4)
  unfold maxLen at hcm
  clear hn i4
  go_enter Try.func27, Try.ntmps27
  go_upto_region 3 with (fail)
  obtain ⟨W, hW⟩ : ∃ W, w.alloc (.cells #[.int .i64 0, .slice none 0 0] 46) = W := ⟨_, rfl⟩
  try rw [hW]
  have a2 : W.heap[w.heap.size]? = some (.cells #[.int .i64 0, .slice none 0 0] 46) := by rw [← hW]; exact heap_alloc_new _ _
  have hBW : Below w.heap.size w W := by rw [← hW]; exact (Below.refl _ _).alloc (Nat.le_refl _) _
  have hzW : w.heap.size < W.heap.size := by rw [← hW]; simp
  clear hW
  replace k0 := (hBW.cell (p := ⟨b, o, none⟩) hbw).trans k0
  replace k1 := (hBW.cell (p := ⟨b, o + 1, none⟩) hbw).trans k1
  replace k2 := (hBW.cell (p := ⟨b, o + 2, none⟩) hbw).trans k2
  let S : World → Prop := fun w' => w'.cell? ⟨b, o, none⟩ = some (.int .u8 (X0 : Int)) ∧ w'.cell? ⟨b, o + 1, none⟩ = some (.int .u8 (X1 : Int))
  have hSS : ∀ w', Below W.heap.size W w' → S w' := fun w' h => ⟨(h.cell (p := ⟨b, o, none⟩) (by show b < _; omega)).trans k0, (h.cell (p := ⟨b, o + 1, none⟩) (by show b < _; omega)).trans k1⟩
  have hS0 : S W.drew := hSS _ (Below.refl _ _).drew
  clear k0 k1
  refine wp_region_held (S := S) (by kernel_rfl) ?_
  change wpAnyH _ _ _ _ S _ _ _ W.drew
  refine wpAnyH_take (i := 0) (oi := ?oi_209) (v := ?v_209) ?ho_209 ?h1_209 ?h2_209 ?h3_209 ?hq_209 (Or.inl ⟨?hw_209, ?hy_209⟩) ?hs_209 ?rest_209; (case h2_209 => kernel_rfl); (case h3_209 => kernel_rfl); (case ho_209 => (simp only [List.getElem?_toArray, List.getElem?_cons_zero, List.getElem?_cons_succ]; rfl)); (case h1_209 => kernel_rfl); (case hq_209 => exact fun _ _ _ h => h); (case hw_209 => rfl); (case hy_209 => (intro w' hSw; (try simp only [S] at hSw); go_simp; (try with_reducible rfl))); (case hs_209 => assumption); (try simp only [Act.put, List.setIfInBounds_toArray, List.set_cons_zero, List.set_cons_succ])
  refine wpAnyH_take (i := 1) (oi := ?oi_210) (v := ?v_210) ?ho_210 ?h1_210 ?h2_210 ?h3_210 ?hq_210 (Or.inl ⟨?hw_210, ?hy_210⟩) ?hs_210 ?rest_210; (case h2_210 => kernel_rfl); (case h3_210 => kernel_rfl); (case ho_210 => (simp only [List.getElem?_toArray, List.getElem?_cons_zero, List.getElem?_cons_succ]; rfl)); (case h1_210 => kernel_rfl); (case hq_210 => exact fun _ _ _ h => h); (case hw_210 => rfl); (case hy_210 => (intro w' hSw; (try simp only [S] at hSw); go_simp; (try with_reducible rfl))); (case hs_210 => assumption); (try simp only [Act.put, List.setIfInBounds_toArray, List.set_cons_zero, List.set_cons_succ])
  refine wpAnyH_take (i := 2) (oi := ?oi_211) (v := ?v_211) ?ho_211 ?h1_211 ?h2_211 ?h3_211 ?hq_211 (Or.inl ⟨?hw_211, ?hy_211⟩) ?hs_211 ?rest_211; (case h2_211 => kernel_rfl); (case h3_211 => kernel_rfl); (case ho_211 => (simp only [List.getElem?_toArray, List.getElem?_cons_zero, List.getElem?_cons_succ]; rfl)); (case h1_211 => kernel_rfl); (case hq_211 => exact fun _ _ _ h => h); (case hw_211 => rfl); (case hy_211 => (intro w' hSw; (try simp only [S] at hSw); go_simp; (try with_reducible rfl))); (case hs_211 => assumption); (try simp only [Act.put, List.setIfInBounds_toArray, List.set_cons_zero, List.set_cons_succ])
  refine wpAnyH_take (i := 3) (oi := ?oi_212) (v := ?v_212) ?ho_212 ?h1_212 ?h2_212 ?h3_212 ?hq_212 (Or.inl ⟨?hw_212, ?hy_212⟩) ?hs_212 ?rest_212; (case h2_212 => kernel_rfl); (case h3_212 => kernel_rfl); (case ho_212 => (simp only [List.getElem?_toArray, List.getElem?_cons_zero, List.getElem?_cons_succ]; rfl)); (case h1_212 => kernel_rfl); (case hq_212 => exact fun _ _ _ h => h); (case hw_212 => rfl); (case hy_212 => (intro w' hSw; (try simp only [S] at hSw); go_simp; (try with_reducible rfl))); (case hs_212 => assumption); (try simp only [Act.put, List.setIfInBounds_toArray, List.set_cons_zero, List.set_cons_succ])
  refine wpAnyH_take (i := 4) (oi := ?oi_213) (v := ?v_213) ?ho_213 ?h1_213 ?h2_213 ?h3_213 ?hq_213 (Or.inl ⟨?hw_213, ?hy_213⟩) ?hs_213 ?rest_213; (case h2_213 => kernel_rfl); (case h3_213 => kernel_rfl); (case ho_213 => (simp only [List.getElem?_toArray, List.getElem?_cons_zero, List.getElem?_cons_succ]; rfl)); (case h1_213 => kernel_rfl); (case hq_213 => exact fun _ _ _ h => h); (case hw_213 => rfl); (case hy_213 => (intro w' hSw; (try simp only [S] at hSw); go_simp; (try with_reducible rfl))); (case hs_213 => assumption); (try simp only [Act.put, List.setIfInBounds_toArray, List.set_cons_zero, List.set_cons_succ])
  refine wpAnyH_take (i := 5) (oi := ?oi_214) (v := ?v_214) ?ho_214 ?h1_214 ?h2_214 ?h3_214 ?hq_214 (Or.inl ⟨?hw_214, ?hy_214⟩) ?hs_214 ?rest_214; (case h2_214 => kernel_rfl); (case h3_214 => kernel_rfl); (case ho_214 => (simp only [List.getElem?_toArray, List.getElem?_cons_zero, List.getElem?_cons_succ]; rfl)); (case h1_214 => kernel_rfl); (case hq_214 => exact fun _ _ _ h => h); (case hw_214 => rfl); (case hy_214 => (intro w' hSw; (try simp only [S] at hSw); go_simp; (try with_reducible rfl))); (case hs_214 => assumption); (try simp only [Act.put, List.setIfInBounds_toArray, List.set_cons_zero, List.set_cons_succ])
  refine wpAnyH_take (i := 6) (oi := ?oi_215) (v := ?v_215) ?ho_215 ?h1_215 ?h2_215 ?h3_215 ?hq_215 (Or.inl ⟨?hw_215, ?hy_215⟩) ?hs_215 ?rest_215; (case h2_215 => kernel_rfl); (case h3_215 => kernel_rfl); (case ho_215 => (simp only [List.getElem?_toArray, List.getElem?_cons_zero, List.getElem?_cons_succ]; rfl)); (case h1_215 => kernel_rfl); (case hq_215 => exact fun _ _ _ h => h); (case hw_215 => rfl); (case hy_215 => (intro w' hSw; (try simp only [S] at hSw); go_simp; (try with_reducible rfl))); (case hs_215 => assumption); (try simp only [Act.put, List.setIfInBounds_toArray, List.set_cons_zero, List.set_cons_succ])
  refine wpAnyH_take (i := 7) (oi := ?oi_216) (v := ?v_216) ?ho_216 ?h1_216 ?h2_216 ?h3_216 ?hq_216 (Or.inl ⟨?hw_216, ?hy_216⟩) ?hs_216 ?rest_216; (case h2_216 => kernel_rfl); (case h3_216 => kernel_rfl); (case ho_216 => (simp only [List.getElem?_toArray, List.getElem?_cons_zero, List.getElem?_cons_succ]; rfl)); (case h1_216 => kernel_rfl); (case hq_216 => exact fun _ _ _ h => h); (case hw_216 => rfl); (case hy_216 => (intro w' hSw; (try simp only [S] at hSw); go_simp; (try with_reducible rfl))); (case hs_216 => assumption); (try simp only [Act.put, List.setIfInBounds_toArray, List.set_cons_zero, List.set_cons_succ])
  refine wpAnyH_take (i := 8) (oi := ?oi_217) (v := ?v_217) ?ho_217 ?h1_217 ?h2_217 ?h3_217 ?hq_217 (Or.inl ⟨?hw_217, ?hy_217⟩) ?hs_217 ?rest_217; (case h2_217 => kernel_rfl); (case h3_217 => kernel_rfl); (case ho_217 => (simp only [List.getElem?_toArray, List.getElem?_cons_zero, List.getElem?_cons_succ]; rfl)); (case h1_217 => kernel_rfl); (case hq_217 => exact fun _ _ _ h => h); (case hw_217 => rfl); (case hy_217 => (intro w' hSw; (try simp only [S] at hSw); go_simp; (try with_reducible rfl))); (case hs_217 => assumption); (try simp only [Act.put, List.setIfInBounds_toArray, List.set_cons_zero, List.set_cons_succ])
  refine wpAnyH_take (i := 9) (oi := ?oi_218) (v := ?v_218) ?ho_218 ?h1_218 ?h2_218 ?h3_218 ?hq_218 (Or.inl ⟨?hw_218, ?hy_218⟩) ?hs_218 ?rest_218; (case h2_218 => kernel_rfl); (case h3_218 => kernel_rfl); (case ho_218 => (simp only [List.getElem?_toArray, List.getElem?_cons_zero, List.getElem?_cons_succ]; rfl)); (case h1_218 => kernel_rfl); (case hq_218 => exact fun _ _ _ h => h); (case hw_218 => rfl); (case hy_218 => (intro w' hSw; (try simp only [S] at hSw); go_simp; (try with_reducible rfl))); (case hs_218 => assumption); (try simp only [Act.put, List.setIfInBounds_toArray, List.set_cons_zero, List.set_cons_succ])
  refine wpAnyH_take (i := 10) (oi := ?oi_238) (v := ?v_238) ?ho_238 ?h1_238 ?h2_238 ?h3_238 ?hq_238 (Or.inl ⟨?hw_238, ?hy_238⟩) ?hs_238 ?rest_238; (case h2_238 => kernel_rfl); (case h3_238 => kernel_rfl); (case ho_238 => (simp only [List.getElem?_toArray, List.getElem?_cons_zero, List.getElem?_cons_succ]; rfl)); (case h1_238 => kernel_rfl); (case hq_238 => exact fun _ _ _ h => h); (case hw_238 => rfl); (case hy_238 => (intro w' hSw; refine exec_built (t := 46) (cs := #[.int .i64 next, .slice none 0 0]) (parts := #[(0, .tmp 34)]) ?_ ?_ w'; exact rfl; simp only [List.map_toArray, List.map_cons, List.map_nil]; exact hbt)); (case hs_238 => assumption); (try simp only [Act.put, List.setIfInBounds_toArray, List.set_cons_zero, List.set_cons_succ])
  refine wpAnyH_ready (rs := [11]) (by kernel_rfl) (by simp) (AllReadyH.cons (o := ?oo11_240) ?hoo11_240 (fun K hK => ?steponly240) AllReadyH.nil); (case hoo11_240 => (simp only [List.getElem?_toArray, List.getElem?_cons_zero, List.getElem?_cons_succ]; rfl))
  refine step_new rfl hz rfl ?_
  refine hK.out _ _ (hSS _ ((Below.refl _ W).drew.alloc (Nat.le_refl _) _)) (fun _ => ?_)
  clear hK K
  (try simp only [Act.put, List.setIfInBounds_toArray, List.set_cons_zero, List.set_cons_succ])
  refine wpAnyH_ready (rs := [12]) (by kernel_rfl) (by simp) (AllReadyH.cons (o := ?oo12_241) ?hoo12_241 (fun K hK => ?steponly241) AllReadyH.nil); (case hoo12_241 => (simp only [List.getElem?_toArray, List.getElem?_cons_zero, List.getElem?_cons_succ]; rfl))
  refine step_row rfl 46 (.tmp 4) (.tmp 35) rfl W.heap.size #[.int .i64 next, .slice none 0 0] rfl rfl _ #[.int .i64 0, .slice none 0 0] (heap_alloc_new W.drew _) (lg_info _ _) rfl (one_lg _ _ _ _) ?_
  have hbV : Below W.heap.size W ((W.drew.alloc (.cells #[.int .i64 0, .slice none 0 0] 46)).setRow W.heap.size #[.int .i64 next, .slice none 0 0]) := bSetRow ((Below.refl _ W).drew.alloc (Nat.le_refl _) _) (Nat.le_refl _) _
  refine hK.out _ _ (hSS _ hbV) (fun _ => ?_)
  clear hK K
  (try simp only [Act.put, List.setIfInBounds_toArray, List.set_cons_zero, List.set_cons_succ])
  refine wpAnyH_done (by kernel_rfl) ?_ _
  have g4 : ((W.drew.alloc (.cells #[.int .i64 0, .slice none 0 0] 46)).setRow W.heap.size #[.int .i64 next, .slice none 0 0]).heap[W.heap.size]? = some (.cells #[.int .i64 next, .slice none 0 0] 46) := setRow_heap _ _ _ _ _ _ (heap_alloc_new W.drew _)
  clear hSS hS0 w0 w1 w5 w7 l0 l1 hbt i1 i5 j1
  generalize (W.drew.alloc (.cells #[.int .i64 0, .slice none 0 0] 46)).setRow W.heap.size #[.int .i64 next, .slice none 0 0] = V0 at *
  go_wp2_with fail
  go_loopw [5] (fun vi wr => ∃ k : Nat, k ≤ cnt ∧ vi = .int .i64 k ∧ Below W.heap.size W wr ∧ ∃ A c', wr.heap[W.heap.size]? = some (.cells #[.int .i64 next, .slice A k c'] 46) ∧ wr.ownsRow (W.heap.size + 1) 66 33 (.slice A k c') k (les ((List.range k).map (decE l)))) (fun vi _ => cnt - (intOf vi).toNat)
  case atStart => exact ⟨0, by omega, rfl, hbV, none, 0, g4, World.ownsRow_nil _ _ _ _⟩
  case round =>
    clear hbV g4
    obtain ⟨k, hk, rfl, hbr, A, c', g4, hown⟩ := hrel
    have k2r := (hbr.cell (p := ⟨b, o + 2, none⟩) (by show b < _; omega)).trans k2
    have hGr := (Array.getElem?_eq_some_iff.1 g4).1
    by_cases hlt : k < cnt
    · have hx := decE_ok (b := l) (k := k) (cnt := cnt) (by rw [HD.out.2.2.2]; exact HN2.out.1) hlt
      have hk34 : (k + 1) * 34 ≤ cnt * 34 := Nat.mul_le_mul_right _ hlt
      obtain ⟨a, ha⟩ : ∃ a, 3 + k * 34 = a := ⟨_, rfl⟩
      have han : a + 34 ≤ n := by have := HN2.out.1; omega
      have hwr : Below w.heap.size w wr := hBW.trans (hbr.mono (by omega))
      have hslr := HD.out.2.1.below (hwr.mono hB)
      have ka := hslr.cellAt rfl (i := a) (by omega)
      have ka1 := hslr.cellAt rfl (i := a + 1) (by omega)
      have la := (at8 l a).toNat_lt
      have la1 := (at8 l (a + 1)).toNat_lt
      have hnum : ((at8 l a).toNat : Int) * 256 + ((at8 l (a + 1)).toNat : Int) = (decE l k).num := by
        show _ = ((n16 l (3 + k * 34) : Nat) : Int)
        rw [ha]
        show _ = (((at8 l a).toNat * 256 + (at8 l (a + 1)).toNat : Nat) : Int)
        omega
      have hrK := range_cut (bRange hwr hbw HD.out.2.2.1) (a + 2) 32
      rw [show ((bvs l).drop (a + 2)).take 32 = bvs (decE l k).key from by
        show _ = bvs ((l.drop (3 + k * 34 + 2)).take 32)
        rw [ha]
        simp [bvs, List.map_take, List.map_drop]] at hrK
      have hsn := range_snoc l k
      have hkey := hx.key
      obtain ⟨x, hxe⟩ : ∃ x, decE l k = x := ⟨_, rfl⟩
      rw [hxe] at hx hnum hrK hsn hkey
      generalize (at8 l a).toNat = P at *
      generalize (at8 l (a + 1)).toNat = Q at *
      have w0 : IntKind.i64.wrap (P : Int) = P := wrap_small _ (by omega) (by omega)
      have w1 : IntKind.i64.wrap (Q : Int) = Q := wrap_small _ (by omega) (by omega)
      have w5 : IntKind.i64.wrap ((P : Int) * 256) = P * 256 := wrap_small _ (by omega) (by omega)
      have w7 : IntKind.i64.wrap ((P : Int) * 256 + Q) = x.num := by rw [← hnum]; exact wrap_small _ (by omega) (by omega)
      have hA : (3 : Int) + 34 * (k : Int) = (a : Int) := by omega
      have wa1 : IntKind.i64.wrap ((a : Int) + 1) = (a : Int) + 1 := wrap_small _ (by omega) (by omega)
      have wa2 : IntKind.i64.wrap ((a : Int) + 2) = (a : Int) + 2 := wrap_small _ (by omega) (by omega)
      have na1 : ((a : Int) + 1).toNat = a + 1 := by omega
      have na2 : ((a : Int) + 2).toNat = a + 2 := by omega
      have pa1 : (0 : Int) ≤ (a : Int) + 1 := by omega
      have pa2 : (0 : Int) ≤ (a : Int) + 2 := by omega
      have qa0 : (a : Int) < (n : Int) := by omega
      have qa1 : (a : Int) + 1 < (n : Int) := by omega
      have qa2 : (a : Int) + 2 ≤ (n : Int) := by omega
      have ra0 : a < n := by omega
      have ra1 : a + 1 < n := by omega
      have ra2 : a + 2 ≤ n := by omega
      have hc2 : ¬ c = a + 2 := by omega
      have hi1 : (k : Int) < (cnt : Int) := by omega
      have hbt := built_le1 x.num
      have hzE := leZ
      have hone1 := one_le (LE.mk x.num (List.replicate 32 0))
      obtain ⟨c1, hc1⟩ : ∃ q, (LE.mk x.num (List.replicate 32 0)).cells.toArray = q := ⟨_, rfl⟩
      have h33 : c1.size = 33 := by rw [← hc1]; simp [LE.cells, bvs_len]
      have hfill := le_fill x.num hkey
      have hone1' : c1.all (·.oneCell') = true := by rw [← hc1]; exact all_oneCell_toArray hone1
      rw [hc1] at hbt hfill
      have hz0 : le0.cells.toArray.size = c1.size := by rw [h33, List.size_toArray, le0_ok.len]
      have hi33 : (Try.prog.info? 66).map (·.size) = some c1.size := by rw [h33]; exact le_size
      have HH := Lib.hid (And.intro hsn (And.intro hxe (And.intro hfill (And.intro ha hnum))))
      have HG := Lib.hid (And.intro hbr (And.intro hown g4))
      clear hsn hxe hfill ha hnum hone1 hc1 hslr la la1 hbr hown hk34
      go_upto_region 8 with (fail)
      let S : World → Prop := fun w' => w'.cell? ⟨b, o + a, none⟩ = some (.int .u8 (P : Int)) ∧ w'.cell? ⟨b, o + (a + 1), none⟩ = some (.int .u8 (Q : Int))
      have hSS : ∀ w', Below wr.heap.size wr w' → S w' := fun w' h => ⟨(h.cell (p := ⟨b, o + a, none⟩) (by show b < _; omega)).trans ka, (h.cell (p := ⟨b, o + (a + 1), none⟩) (by show b < _; omega)).trans ka1⟩
      have hS0 : S wr.drew := hSS _ (Below.refl _ _).drew
      clear ka ka1
      refine wp_region_held (S := S) (by kernel_rfl) ?_
      change wpAnyH _ _ _ _ S _ _ _ wr.drew
      refine wpAnyH_take (i := 0) (oi := ?oi_219) (v := ?v_219) ?ho_219 ?h1_219 ?h2_219 ?h3_219 ?hq_219 (Or.inl ⟨?hw_219, ?hy_219⟩) ?hs_219 ?rest_219; (case h2_219 => kernel_rfl); (case h3_219 => kernel_rfl); (case ho_219 => (simp only [List.getElem?_toArray, List.getElem?_cons_zero, List.getElem?_cons_succ]; rfl)); (case h1_219 => kernel_rfl); (case hq_219 => exact fun _ _ _ h => h); (case hw_219 => rfl); (case hy_219 => (intro w' hSw; (try simp only [S] at hSw); go_simp; (try with_reducible rfl))); (case hs_219 => assumption); (try simp only [Act.put, List.setIfInBounds_toArray, List.set_cons_zero, List.set_cons_succ])
      refine wpAnyH_take (i := 1) (oi := ?oi_220) (v := ?v_220) ?ho_220 ?h1_220 ?h2_220 ?h3_220 ?hq_220 (Or.inl ⟨?hw_220, ?hy_220⟩) ?hs_220 ?rest_220; (case h2_220 => kernel_rfl); (case h3_220 => kernel_rfl); (case ho_220 => (simp only [List.getElem?_toArray, List.getElem?_cons_zero, List.getElem?_cons_succ]; rfl)); (case h1_220 => kernel_rfl); (case hq_220 => exact fun _ _ _ h => h); (case hw_220 => rfl); (case hy_220 => (intro w' hSw; (try simp only [S] at hSw); go_simp; (try with_reducible rfl))); (case hs_220 => assumption); (try simp only [Act.put, List.setIfInBounds_toArray, List.set_cons_zero, List.set_cons_succ])
      refine wpAnyH_take (i := 2) (oi := ?oi_221) (v := ?v_221) ?ho_221 ?h1_221 ?h2_221 ?h3_221 ?hq_221 (Or.inl ⟨?hw_221, ?hy_221⟩) ?hs_221 ?rest_221; (case h2_221 => kernel_rfl); (case h3_221 => kernel_rfl); (case ho_221 => (simp only [List.getElem?_toArray, List.getElem?_cons_zero, List.getElem?_cons_succ]; rfl)); (case h1_221 => kernel_rfl); (case hq_221 => exact fun _ _ _ h => h); (case hw_221 => rfl); (case hy_221 => (intro w' hSw; (try simp only [S] at hSw); go_simp; (try with_reducible rfl))); (case hs_221 => assumption); (try simp only [Act.put, List.setIfInBounds_toArray, List.set_cons_zero, List.set_cons_succ])
      refine wpAnyH_take (i := 3) (oi := ?oi_222) (v := ?v_222) ?ho_222 ?h1_222 ?h2_222 ?h3_222 ?hq_222 (Or.inl ⟨?hw_222, ?hy_222⟩) ?hs_222 ?rest_222; (case h2_222 => kernel_rfl); (case h3_222 => kernel_rfl); (case ho_222 => (simp only [List.getElem?_toArray, List.getElem?_cons_zero, List.getElem?_cons_succ]; rfl)); (case h1_222 => kernel_rfl); (case hq_222 => exact fun _ _ _ h => h); (case hw_222 => rfl); (case hy_222 => (intro w' hSw; (try simp only [S] at hSw); go_simp; (try with_reducible rfl))); (case hs_222 => assumption); (try simp only [Act.put, List.setIfInBounds_toArray, List.set_cons_zero, List.set_cons_succ])
      refine wpAnyH_take (i := 4) (oi := ?oi_223) (v := ?v_223) ?ho_223 ?h1_223 ?h2_223 ?h3_223 ?hq_223 (Or.inl ⟨?hw_223, ?hy_223⟩) ?hs_223 ?rest_223; (case h2_223 => kernel_rfl); (case h3_223 => kernel_rfl); (case ho_223 => (simp only [List.getElem?_toArray, List.getElem?_cons_zero, List.getElem?_cons_succ]; rfl)); (case h1_223 => kernel_rfl); (case hq_223 => exact fun _ _ _ h => h); (case hw_223 => rfl); (case hy_223 => (intro w' hSw; (try simp only [S] at hSw); go_simp; (try with_reducible rfl))); (case hs_223 => assumption); (try simp only [Act.put, List.setIfInBounds_toArray, List.set_cons_zero, List.set_cons_succ])
      refine wpAnyH_take (i := 5) (oi := ?oi_224) (v := ?v_224) ?ho_224 ?h1_224 ?h2_224 ?h3_224 ?hq_224 (Or.inl ⟨?hw_224, ?hy_224⟩) ?hs_224 ?rest_224; (case h2_224 => kernel_rfl); (case h3_224 => kernel_rfl); (case ho_224 => (simp only [List.getElem?_toArray, List.getElem?_cons_zero, List.getElem?_cons_succ]; rfl)); (case h1_224 => kernel_rfl); (case hq_224 => exact fun _ _ _ h => h); (case hw_224 => rfl); (case hy_224 => (intro w' hSw; (try simp only [S] at hSw); go_simp; (try with_reducible rfl))); (case hs_224 => assumption); (try simp only [Act.put, List.setIfInBounds_toArray, List.set_cons_zero, List.set_cons_succ])
      refine wpAnyH_take (i := 6) (oi := ?oi_225) (v := ?v_225) ?ho_225 ?h1_225 ?h2_225 ?h3_225 ?hq_225 (Or.inl ⟨?hw_225, ?hy_225⟩) ?hs_225 ?rest_225; (case h2_225 => kernel_rfl); (case h3_225 => kernel_rfl); (case ho_225 => (simp only [List.getElem?_toArray, List.getElem?_cons_zero, List.getElem?_cons_succ]; rfl)); (case h1_225 => kernel_rfl); (case hq_225 => exact fun _ _ _ h => h); (case hw_225 => rfl); (case hy_225 => (intro w' hSw; (try simp only [S] at hSw); go_simp; (try with_reducible rfl))); (case hs_225 => assumption); (try simp only [Act.put, List.setIfInBounds_toArray, List.set_cons_zero, List.set_cons_succ])
      refine wpAnyH_take (i := 7) (oi := ?oi_226) (v := ?v_226) ?ho_226 ?h1_226 ?h2_226 ?h3_226 ?hq_226 (Or.inl ⟨?hw_226, ?hy_226⟩) ?hs_226 ?rest_226; (case h2_226 => kernel_rfl); (case h3_226 => kernel_rfl); (case ho_226 => (simp only [List.getElem?_toArray, List.getElem?_cons_zero, List.getElem?_cons_succ]; rfl)); (case h1_226 => kernel_rfl); (case hq_226 => exact fun _ _ _ h => h); (case hw_226 => rfl); (case hy_226 => (intro w' hSw; (try simp only [S] at hSw); go_simp; (try with_reducible rfl))); (case hs_226 => assumption); (try simp only [Act.put, List.setIfInBounds_toArray, List.set_cons_zero, List.set_cons_succ])
      refine wpAnyH_take (i := 8) (oi := ?oi_227) (v := ?v_227) ?ho_227 ?h1_227 ?h2_227 ?h3_227 ?hq_227 (Or.inl ⟨?hw_227, ?hy_227⟩) ?hs_227 ?rest_227; (case h2_227 => kernel_rfl); (case h3_227 => kernel_rfl); (case ho_227 => (simp only [List.getElem?_toArray, List.getElem?_cons_zero, List.getElem?_cons_succ]; rfl)); (case h1_227 => kernel_rfl); (case hq_227 => exact fun _ _ _ h => h); (case hw_227 => rfl); (case hy_227 => (intro w' hSw; (try simp only [S] at hSw); go_simp; (try with_reducible rfl))); (case hs_227 => assumption); (try simp only [Act.put, List.setIfInBounds_toArray, List.set_cons_zero, List.set_cons_succ])
      refine wpAnyH_take (i := 9) (oi := ?oi_228) (v := ?v_228) ?ho_228 ?h1_228 ?h2_228 ?h3_228 ?hq_228 (Or.inl ⟨?hw_228, ?hy_228⟩) ?hs_228 ?rest_228; (case h2_228 => kernel_rfl); (case h3_228 => kernel_rfl); (case ho_228 => (simp only [List.getElem?_toArray, List.getElem?_cons_zero, List.getElem?_cons_succ]; rfl)); (case h1_228 => kernel_rfl); (case hq_228 => exact fun _ _ _ h => h); (case hw_228 => rfl); (case hy_228 => (intro w' hSw; (try simp only [S] at hSw); go_simp; (try with_reducible rfl))); (case hs_228 => assumption); (try simp only [Act.put, List.setIfInBounds_toArray, List.set_cons_zero, List.set_cons_succ])
      refine wpAnyH_take (i := 10) (oi := ?oi_229) (v := ?v_229) ?ho_229 ?h1_229 ?h2_229 ?h3_229 ?hq_229 (Or.inl ⟨?hw_229, ?hy_229⟩) ?hs_229 ?rest_229; (case h2_229 => kernel_rfl); (case h3_229 => kernel_rfl); (case ho_229 => (simp only [List.getElem?_toArray, List.getElem?_cons_zero, List.getElem?_cons_succ]; rfl)); (case h1_229 => kernel_rfl); (case hq_229 => exact fun _ _ _ h => h); (case hw_229 => rfl); (case hy_229 => (intro w' hSw; (try simp only [S] at hSw); go_simp; (try with_reducible rfl))); (case hs_229 => assumption); (try simp only [Act.put, List.setIfInBounds_toArray, List.set_cons_zero, List.set_cons_succ])
      refine wpAnyH_take (i := 11) (oi := ?oi_230) (v := ?v_230) ?ho_230 ?h1_230 ?h2_230 ?h3_230 ?hq_230 (Or.inl ⟨?hw_230, ?hy_230⟩) ?hs_230 ?rest_230; (case h2_230 => kernel_rfl); (case h3_230 => kernel_rfl); (case ho_230 => (simp only [List.getElem?_toArray, List.getElem?_cons_zero, List.getElem?_cons_succ]; rfl)); (case h1_230 => kernel_rfl); (case hq_230 => exact fun _ _ _ h => h); (case hw_230 => rfl); (case hy_230 => (intro w' hSw; (try simp only [S] at hSw); go_simp; (try with_reducible rfl))); (case hs_230 => assumption); (try simp only [Act.put, List.setIfInBounds_toArray, List.set_cons_zero, List.set_cons_succ])
      refine wpAnyH_take (i := 12) (oi := ?oi_231) (v := ?v_231) ?ho_231 ?h1_231 ?h2_231 ?h3_231 ?hq_231 (Or.inl ⟨?hw_231, ?hy_231⟩) ?hs_231 ?rest_231; (case h2_231 => kernel_rfl); (case h3_231 => kernel_rfl); (case ho_231 => (simp only [List.getElem?_toArray, List.getElem?_cons_zero, List.getElem?_cons_succ]; rfl)); (case h1_231 => kernel_rfl); (case hq_231 => exact fun _ _ _ h => h); (case hw_231 => rfl); (case hy_231 => (intro w' hSw; (try simp only [S] at hSw); go_simp; (try with_reducible rfl))); (case hs_231 => assumption); (try simp only [Act.put, List.setIfInBounds_toArray, List.set_cons_zero, List.set_cons_succ])
      refine wpAnyH_take (i := 13) (oi := ?oi_239) (v := ?v_239) ?ho_239 ?h1_239 ?h2_239 ?h3_239 ?hq_239 (Or.inl ⟨?hw_239, ?hy_239⟩) ?hs_239 ?rest_239; (case h2_239 => kernel_rfl); (case h3_239 => kernel_rfl); (case ho_239 => (simp only [List.getElem?_toArray, List.getElem?_cons_zero, List.getElem?_cons_succ]; rfl)); (case h1_239 => kernel_rfl); (case hq_239 => exact fun _ _ _ h => h); (case hw_239 => rfl); (case hy_239 => (intro w' hSw; refine exec_built (t := 66) (cs := c1) (parts := #[(0, .tmp 59)]) ?_ ?_ w'; exact rfl; simp only [List.map_toArray, List.map_cons, List.map_nil]; exact hbt)); (case hs_239 => assumption); (try simp only [Act.put, List.setIfInBounds_toArray, List.set_cons_zero, List.set_cons_succ])
      refine wpAnyH_ready (rs := [14]) (by kernel_rfl) (by simp) (AllReadyH.cons (o := ?oo14_242) ?hoo14_242 (fun K hK => ?steponly242) AllReadyH.nil); (case hoo14_242 => (simp only [List.getElem?_toArray, List.getElem?_cons_zero, List.getElem?_cons_succ]; rfl))
      refine step_new rfl hzE rfl ?_
      refine hK.out _ _ (hSS _ ((Below.refl _ wr).drew.alloc (Nat.le_refl _) _)) (fun _ => ?_)
      clear hK K
      (try simp only [Act.put, List.setIfInBounds_toArray, List.set_cons_zero, List.set_cons_succ])
      refine wpAnyH_ready (rs := [15]) (by kernel_rfl) (by simp) (AllReadyH.cons (o := ?oo15_243) ?hoo15_243 (fun K hK => ?steponly243) AllReadyH.nil); (case hoo15_243 => (simp only [List.getElem?_toArray, List.getElem?_cons_zero, List.getElem?_cons_succ]; rfl))
      refine step_row rfl 66 (.tmp 7) (.tmp 60) rfl wr.heap.size c1 rfl rfl _ le0.cells.toArray (heap_alloc_new wr.drew _) hi33 hz0 hone1' ?_
      have hbY : Below wr.heap.size wr ((wr.drew.alloc (.cells le0.cells.toArray 66)).setRow wr.heap.size c1) := bSetRow ((Below.refl _ wr).drew.alloc (Nat.le_refl _) _) (Nat.le_refl _) _
      refine hK.out _ _ (hSS _ hbY) (fun _ => ?_)
      clear hK K
      (try simp only [Act.put, List.setIfInBounds_toArray, List.set_cons_zero, List.set_cons_succ])
      refine wpAnyH_done (by kernel_rfl) ?_ _
      have g7 : ((wr.drew.alloc (.cells le0.cells.toArray 66)).setRow wr.heap.size c1).heap[wr.heap.size]? = some (.cells c1 66) := setRow_heap _ _ _ _ _ _ (heap_alloc_new wr.drew _)
      clear hSS hS0 w0 w1 w5 w7 hbt hzE
      generalize (wr.drew.alloc (.cells le0.cells.toArray 66)).setRow wr.heap.size c1 = Y0 at *
      have hbwr : b < wr.heap.size := by omega
      have hrK0 := bRange hbY hbwr hrK
      have hcopy := fun ty => run_copy_cells (P := Try.prog) Y0.drew 24 24 ty 5 wr.heap.size 1 32 32 ⟨b, o + (a + 2), none⟩ (n - (a + 2)) (c - (a + 2)) (bvs x.key) Try.underlying24 (by kernel_rfl) (by rw [bvs_len, hkey]; exact (Nat.min_eq_right (by omega)).symm) (fun j v hj => by rw [addr_add]; exact hrK0 j v hj)
        (fun j hj => ((there_blk (W := Y0.drew) g7 (o := 1) (n := 32) (by rw [h33]; omega)) j (by rw [bvs_len, hkey] at hj; exact hj)).1) (fun j hj => blk_frozen (W := Y0.drew) g7 _) (oneCell_bvs _)
      rw [bvs_len, hkey] at hcopy
      have g7' := blk_sets (bvs x.key) 1 (W := Y0.drew) g7
      rw [HH.out.2.2.1] at g7'
      have hbY1 : Below wr.heap.size wr (Y0.drew.setCells wr.heap.size 1 (bvs x.key)) := (but_sets (X := fun k => k = wr.heap.size) _ _ _ ((but_of hbY).drew) rfl).below (Nat.le_refl _) (fun k e => by omega)
      go_upto_region 9 with (fail)
      let S : World → Prop := fun _ => True
      refine wp_region_held (S := S) (by kernel_rfl) ?_
      change wpAnyH _ _ _ _ S _ _ _ Y0.drew
      have hS1 : S Y0.drew := trivial
      refine wpAnyH_take (i := 0) (oi := ?oi_232) (v := ?v_232) ?ho_232 ?h1_232 ?h2_232 ?h3_232 ?hq_232 (Or.inl ⟨?hw_232, ?hy_232⟩) ?hs_232 ?rest_232; (case h2_232 => kernel_rfl); (case h3_232 => kernel_rfl); (case ho_232 => (simp only [List.getElem?_toArray, List.getElem?_cons_zero, List.getElem?_cons_succ]; rfl)); (case h1_232 => kernel_rfl); (case hq_232 => exact fun _ _ _ h => h); (case hw_232 => rfl); (case hy_232 => (intro w' hSw; (try simp only [S] at hSw); go_simp; (try with_reducible rfl))); (case hs_232 => assumption); (try simp only [Act.put, List.setIfInBounds_toArray, List.set_cons_zero, List.set_cons_succ])
      refine wpAnyH_take (i := 1) (oi := ?oi_233) (v := ?v_233) ?ho_233 ?h1_233 ?h2_233 ?h3_233 ?hq_233 (Or.inl ⟨?hw_233, ?hy_233⟩) ?hs_233 ?rest_233; (case h2_233 => kernel_rfl); (case h3_233 => kernel_rfl); (case ho_233 => (simp only [List.getElem?_toArray, List.getElem?_cons_zero, List.getElem?_cons_succ]; rfl)); (case h1_233 => kernel_rfl); (case hq_233 => exact fun _ _ _ h => h); (case hw_233 => rfl); (case hy_233 => (intro w' hSw; (try simp only [S] at hSw); go_simp; (try with_reducible rfl))); (case hs_233 => assumption); (try simp only [Act.put, List.setIfInBounds_toArray, List.set_cons_zero, List.set_cons_succ])
      refine wpAnyH_take (i := 2) (oi := ?oi_234) (v := ?v_234) ?ho_234 ?h1_234 ?h2_234 ?h3_234 ?hq_234 (Or.inl ⟨?hw_234, ?hy_234⟩) ?hs_234 ?rest_234; (case h2_234 => kernel_rfl); (case h3_234 => kernel_rfl); (case ho_234 => (simp only [List.getElem?_toArray, List.getElem?_cons_zero, List.getElem?_cons_succ]; rfl)); (case h1_234 => kernel_rfl); (case hq_234 => exact fun _ _ _ h => h); (case hw_234 => rfl); (case hy_234 => (intro w' hSw; (try simp only [S] at hSw); go_simp; (try with_reducible rfl))); (case hs_234 => assumption); (try simp only [Act.put, List.setIfInBounds_toArray, List.set_cons_zero, List.set_cons_succ])
      refine wpAnyH_take (i := 3) (oi := ?oi_235) (v := ?v_235) ?ho_235 ?h1_235 ?h2_235 ?h3_235 ?hq_235 (Or.inl ⟨?hw_235, ?hy_235⟩) ?hs_235 ?rest_235; (case h2_235 => kernel_rfl); (case h3_235 => kernel_rfl); (case ho_235 => (simp only [List.getElem?_toArray, List.getElem?_cons_zero, List.getElem?_cons_succ]; rfl)); (case h1_235 => kernel_rfl); (case hq_235 => exact fun _ _ _ h => h); (case hw_235 => rfl); (case hy_235 => (intro w' hSw; (try simp only [S] at hSw); go_simp; (try with_reducible rfl))); (case hs_235 => assumption); (try simp only [Act.put, List.setIfInBounds_toArray, List.set_cons_zero, List.set_cons_succ])
      refine wpAnyH_take (i := 4) (oi := ?oi_236) (v := ?v_236) ?ho_236 ?h1_236 ?h2_236 ?h3_236 ?hq_236 (Or.inl ⟨?hw_236, ?hy_236⟩) ?hs_236 ?rest_236; (case h2_236 => kernel_rfl); (case h3_236 => kernel_rfl); (case ho_236 => (simp only [List.getElem?_toArray, List.getElem?_cons_zero, List.getElem?_cons_succ]; rfl)); (case h1_236 => kernel_rfl); (case hq_236 => exact fun _ _ _ h => h); (case hw_236 => rfl); (case hy_236 => (intro w' hSw; (try simp only [S] at hSw); go_simp; (try with_reducible rfl))); (case hs_236 => assumption); (try simp only [Act.put, List.setIfInBounds_toArray, List.set_cons_zero, List.set_cons_succ])
      refine wpAnyH_take (i := 5) (oi := ?oi_237) (v := ?v_237) ?ho_237 ?h1_237 ?h2_237 ?h3_237 ?hq_237 (Or.inl ⟨?hw_237, ?hy_237⟩) ?hs_237 ?rest_237; (case h2_237 => kernel_rfl); (case h3_237 => kernel_rfl); (case ho_237 => (simp only [List.getElem?_toArray, List.getElem?_cons_zero, List.getElem?_cons_succ]; rfl)); (case h1_237 => kernel_rfl); (case hq_237 => exact fun _ _ _ h => h); (case hw_237 => rfl); (case hy_237 => (intro w' hSw; (try simp only [S] at hSw); go_simp; (try with_reducible rfl))); (case hs_237 => assumption); (try simp only [Act.put, List.setIfInBounds_toArray, List.set_cons_zero, List.set_cons_succ])
      refine wpAnyH_ready (rs := [6]) (by kernel_rfl) (by simp) (AllReadyH.cons (o := ?oo6_244) ?hoo6_244 (fun K hK => ?steponly244) AllReadyH.nil); (case hoo6_244 => (simp only [List.getElem?_toArray, List.getElem?_cons_zero, List.getElem?_cons_succ]; rfl))
      go_simp
      refine hK.out _ _ trivial (fun _ => ?_)
      clear hK K hcopy hS1
      (try simp only [Act.put, List.setIfInBounds_toArray, List.set_cons_zero, List.set_cons_succ])
      refine wpAnyH_done (by kernel_rfl) ?_ _
      generalize Y0.drew.setCells wr.heap.size 1 (bvs x.key) = Y at *
      clear hbY g7 hrK0 hrK
      obtain ⟨hbr, hown, g4⟩ := HG.out
      have hownY := own_below hown hbY1
      have g4Y := bBlk hbY1 hGr g4
      have q1 := blk_cell g4Y (k := 1) rfl
      have f1 := blk_frozen g4Y 1
      have hxl := hx.len
      have hEl : (LE.mk x.num x.key).cells = x.cells := rfl
      rw [hEl] at g7'
      have hzY := (Array.getElem?_eq_some_iff.1 g7').1
      have hWY : W.heap.size < Y.heap.size := by omega
      have hii := le_info hx
      have honeX := one_le x
      obtain ⟨cl, hcl⟩ : ∃ q, x.cells = q := ⟨_, rfl⟩
      rw [hcl] at g7' hii honeX hxl
      obtain ⟨A', cz, wz, hrun, hown', hgrow, _⟩ := run_app (P := Try.prog) (Y.alloc (.cells cl.toArray 66)) (ty := 44) (t := 44) Try.underlying44 elemLE (hownY.alloc _) (Sl.new (n := 1) (heap_alloc_new _ _) (by simpa using hxl)) (c := 1) (by simpa using honeX) (by simp only [maxLen]; omega) (by omega) (by simp; omega)
      have hbs := run_slice1 (P := Try.prog) (t := 44) leZ Try.underlying44 (by rw [List.size_toArray, le0_ok.len]) (by omega) (by omega) cl hxl Y
      have hnO : ∀ q, (Value.slice A k c').ownBlock = some q → W.heap.size + 1 ≤ q := fun q hq => own_ge hownY q hq
      have g4z : wz.heap[W.heap.size]? = some (.cells #[.int .i64 next, .slice A k c'] 46) := (hgrow.block W.heap.size (by simp; omega) (fun e => by have := hnO _ e.symm; omega)).trans ((Below.heap_alloc _ _ _ hWY).trans g4Y)
      have f1z := blk_frozen g4z 1
      have q1z := blk_cell g4z (k := 1) rfl
      have gfin := blk_set g4z 1 (.slice A' (k + 1) cz)
      have hownF : (wz.setCell ⟨W.heap.size, 1, none⟩ (.slice A' (k + 1) cz)).ownsRow (W.heap.size + 1) 66 33 (.slice A' (k + 1) cz) (k + 1) (les ((List.range (k + 1)).map (decE l))) := by
        rw [HH.out.1, hcl]
        refine ⟨hown'.1, ?_⟩
        rcases hown'.2 with h | ⟨q, cap, cur, e, h2, h3, h4⟩
        · exact .inl h
        · exact .inr ⟨q, cap, cur, e, h2, (blk_far h3 (p := ⟨W.heap.size, 1, none⟩) _ (by show q ≠ W.heap.size; omega)), h4⟩
      have hbF : Below W.heap.size W (wz.setCell ⟨W.heap.size, 1, none⟩ (.slice A' (k + 1) cz)) := by
        have h1 : Below W.heap.size W Y := hbr.trans (hbY1.mono (by omega))
        have h2 : Below W.heap.size Y wz := ((Below.refl _ Y).alloc (by omega) _).trans ((Below.refl W.heap.size _).grown hgrow (by simp; omega) (fun q e => by have := hnO q e; omega))
        exact (h1.trans h2).setCell (p := ⟨W.heap.size, 1, none⟩) (Nat.le_refl _) _
      have HF2 := Lib.hid (And.intro gfin (And.intro hownF hbF))
      clear gfin hownF hbF hown' hgrow hownY hown g4 hbr g4Y g4z hnO hbY1 hA
      go_wp2_with (first
        | (refine wpList_load_row (o := ⟨some 70, _, _, _, _, _⟩) rfl 66 (.tmp 7) rfl _ rfl _ cl.toArray (0, 0) _ g7' Try.underlying66 rfl hii ?_)
        | fail)
      refine ⟨⟨k + 1, by omega, by omega, HF2.out.2.2, A', cz, HF2.out.1, HF2.out.2.1⟩, ?_⟩
      simp [intOf]; omega
    · obtain rfl : k = cnt := by omega
      have hi1 : ¬ (k : Int) < (k : Int) := by omega
      have hBc := hBW.trans (hbr.mono (by omega))
      have b2 := bBlk hbr hzW a2
      rw [HD.out.1] at hown
      have hok := hoky
      have hLg := LgAt.of_own hok hdl hown
      obtain ⟨A1, cc1, e1, hca, hcb⟩ := own_form hown
      simp only [Value.slice.injEq] at e1
      obtain ⟨rfl, -, rfl⟩ := e1
      generalize decL l = L at *
      have hG : W.heap.size ≤ W.heap.size := Nat.le_refl _
      have hrr := rlog_any (next := next) wr hLg (Nat.le_refl _)
      unfold lgv EncP at hrr
      have x0 := blk_cell g4 (k := 0) rfl
      have x1 := blk_cell g4 (k := 1) rfl
      have hGlt := (Array.getElem?_eq_some_iff.1 g4).1
      have HK := Lib.hid (And.intro hBc (And.intro b2 (And.intro (And.intro hown (And.intro hok hdl)) (And.intro g4 (And.intro hG hcb)))))
      clear k2 hok hdl hoky hBW hbr hown b2 hLg g4 hBc a2 hcb
      go_wp2_with fail
      refine Calls.mono hrr ?_
      rintro e X ⟨A2, n2, cc2, rfl, -, -, -, -, -, hbX⟩
      obtain ⟨hBc, b2, ⟨hown, hok, hdl⟩, g4, hG, hcb⟩ := HK.out
      have y4 := bBlk hbX hGlt g4
      have y2 := bBlk hbX (Array.getElem?_eq_some_iff.1 b2).1 b2
      have hBX := hBc.trans (hbX.mono hBc.size)
      have hownX := own_below hown hbX
      have hfin : ∀ cs, LgAt (X.setRow w.heap.size cs) (X.setRow w.heap.size cs).heap.size A k c' L := fun cs => LgAt.of_own hok hdl (own_setRow hownX (fun k e => by have := (hown.lt k e).1; omega) cs)
      obtain ⟨V, hV⟩ : ∃ V, X.setRow w.heap.size #[.int .i64 0, .slice none 0 0] = V := ⟨_, rfl⟩
      have v2 : V.heap[w.heap.size]? = some (.cells #[.int .i64 0, .slice none 0 0] 46) := by rw [← hV]; exact setRow_heap _ _ _ _ _ _ y2
      have hBV : Below w.heap.size w V := by rw [← hV]; exact bSetRow hBX (Nat.le_refl _) _
      obtain ⟨U, hU⟩ : ∃ V, X.setRow w.heap.size #[.int .i64 next, .slice A k c'] = V := ⟨_, rfl⟩
      have u2 : U.heap[w.heap.size]? = some (.cells #[.int .i64 next, .slice A k c'] 46) := by rw [← hU]; exact setRow_heap _ _ _ _ _ _ y2
      have hBU : Below w.heap.size w U := by rw [← hU]; exact bSetRow hBX (Nat.le_refl _) _
      have hLU := hfin #[.int .i64 next, .slice A k c']
      rw [hU] at hLU
      have hldV := run_loadVar_row (P := Try.prog) V _ _ 46 _ _ _ v2 Try.underlying46 rfl (lg_info _ _)
      have hldU := run_loadVar_row (P := Try.prog) U _ _ 46 _ _ _ u2 Try.underlying46 rfl (lg_info _ _)
      obtain ⟨g, hg⟩ : ∃ g, goodL next L = g := ⟨_, rfl⟩
      rw [hg] at hL
      rw [hg]
      have HZ := Lib.hid (And.intro hBV (And.intro hBU (And.intro hLU hcb)))
      have HL := Lib.hid hL
      clear hBV hBU hLU hcb hfin hownX hown hok hdl hBX hbX hBc b2 g4 v2 u2 hg hrr x0 x1 hG hL
      cases g
      · rw [show erF false = 11 from rfl]
        clear hldU hU
        go_wp2_with (first
          | (refine wpList_built rfl 46 #[] rfl (cs := #[.int .i64 0, .slice none 0 0]) (by simp only [List.map_toArray, List.map_nil]; exact built_lg0) ?_)
          | (refine wpList_store_row rfl 46 (.tmp 2) (.tmp 81) rfl _ #[.int .i64 0, .slice none 0 0] rfl rfl _ #[.int .i64 0, .slice none 0 0] y2 (lg_info _ _) rfl (one_lg _ _ _ _) ?_)
          | fail)
        try rw [hV]
        refine bodyPost_ret (by simp [results, Try.results27, Act.put, asAddr, Result.andThen, hldV]; try rfl) rfl ?_
        exact ldec_no HL.out HZ.out.1
      · rw [show erF true = 0 from rfl]
        clear hldV hV
        go_wp2_with (first
          | (refine wpList_load_row rfl 46 (.tmp 4) rfl _ rfl _ #[.int .i64 next, .slice A k c'] (0, 0) _ y4 Try.underlying46 rfl (lg_info _ _) ?_)
          | (refine wpList_store_row rfl 46 (.tmp 2) (.tmp 82) rfl _ #[.int .i64 next, .slice A k c'] rfl rfl _ #[.int .i64 0, .slice none 0 0] y2 (lg_info _ _) rfl (one_lg _ _ _ _) ?_)
          | fail)
        try rw [hU]
        refine bodyPost_ret (by simp [results, Try.results27, Act.put, asAddr, Result.andThen, hldU]; try rfl) rfl ?_
        refine ⟨A, k, c', ?_, ?_, HZ.out.2.2.2, HZ.out.2.1⟩
        · rw [hN.out, HL.out]; rfl
        · rw [hO.out, HL.out]; exact HZ.out.2.2.1
end Go.Proofs.Ytjfkaebikmnnaaa
