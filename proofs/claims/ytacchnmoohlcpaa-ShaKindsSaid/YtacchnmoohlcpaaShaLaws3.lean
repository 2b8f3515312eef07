/- The walk over ShaKinds. -/
import Derived.Test.YtacchnmoohlcpaaShaLaws2
namespace Go.Proofs.Ytacchnmoohlcpaa
set_option linter.unusedSimpArgs false
set_option linter.unusedVariables false
open Go.RowKit Go.ChangeShapes Go.WideShapes Go.Sort
attribute [-go_sem] Builtin.append_

theorem take_snoc {l : List UInt8} {j : Nat} {x : UInt8} (h : l[j]? = some x) : l.take (j + 1) = l.take j ++ [x] := by
  obtain ⟨hj, rfl⟩ := List.getElem?_eq_some_iff.1 h
  rw [List.take_succ_eq_append_getElem hj]
set_option maxHeartbeats 8000000 in
set_option maxRecDepth 100000 in
theorem shaKinds_core (k0 k1 : UInt8) {l : List UInt8} {A : Option Addr} {c : Nat} (w : World) (hs : Sl w w.heap.size 1 A l.length (bvs l)) (hlm : l.length ≤ maxLen) :
    Calls Try.prog 5 #[.agg #[.int .u8 (k0.toNat : Int), .int .u8 (k1.toNat : Int)], .slice A l.length c] w (Ret w (.bool true)) := by
  have hwk := fun W => wakes_any W
  simp only [maxLen] at hlm
  by_cases hbig : 2000 < l.length
  · have g1 : (2000 : Int) < l.length := by omega
    go_enter Try.func5, Try.ntmps5
    go_wp2_with (first
      | (go_at_call 15; refine (hwk _).mono ?_; rintro e w2 ⟨rfl, hb2⟩)
      | fail)
    go_ret
    exact Ret.mk rfl (((Below.refl _ w).alloc (Nat.le_refl _) _).trans (hb2.mono (by simp)))
  have g1 : ¬ (2000 : Int) < l.length := by omega
  have hof := fun (k : UInt8) W A B c h1 h2 => of_any (kind := (k.toNat : Int)) (l := l) (A := A) (B := B) (c := c) (by omega) W h1 h2
  have hrsum := fun (k : UInt8) W A B c h1 h2 => rsum_any (l := k :: l) (A := A) (B := B) (c := c) (by simp; omega) W h1 h2
  have hof0 := fun W => of_any (kind := (k0.toNat : Int)) (l := []) (A := none) (B := 0) (c := 0) (by simp) W (Nat.zero_le _) (sl_nil _ _)
  have hrsum0 := fun W A B c h1 h2 => rsum_any (l := [k0]) (A := A) (B := B) (c := c) (by simp) W h1 h2
  have hl0 := sha_len [k0]
  have hk0 := k0.toNat_lt
  have hk1 := k1.toNat_lt
  rw [u8_small] at hof0
  have hof' : ∀ (k : UInt8) W A B c, B ≤ W.heap.size → Sl W B 1 A l.length (bvs l) → Calls Try.prog 19 #[.int .i64 (k.toNat : Int), .slice A l.length c] W (Ret W (.agg (bvs (sha (k :: l))).toArray)) := fun k W A B c h1 h2 => by have := hof k W A B c h1 h2; rwa [u8_small] at this
  have hrsum' : ∀ (k : UInt8) W A B c, B ≤ W.heap.size → Sl W B 1 A (l.length + 1) (bvs (k :: l)) → Calls Try.prog 18 #[.slice A (l.length + 1) c] W (Ret W (.agg (bvs (sha (k :: l))).toArray)) := fun k W A B c h1 h2 => hrsum k W A B c h1 h2
  change ∀ W A B c, B ≤ W.heap.size → Sl W B 1 A 1 _ → Calls _ _ #[.slice A 1 c] _ _ at hrsum0
  change ∀ W, Calls _ _ #[_, .slice none 0 0] _ _ at hof0
  clear hof hrsum
  obtain ⟨n, hn⟩ : ∃ n, l.length = n := ⟨_, rfl⟩
  rw [hn] at hs hof' hrsum' g1 ⊢
  have hn2 : n ≤ 2000 := by omega
  go_enter Try.func5, Try.ntmps5
  go_upto_region 1 with (fail)
  generalize hW0 : World.alloc w _ = W0
  have a0 : W0.heap[w.heap.size]? = some (.cells #[.int .u8 (k0.toNat : Int), .int .u8 (k1.toNat : Int)] 37) := by rw [← hW0]; exact heap_alloc_new _ _
  have hz0 : w.heap.size < W0.heap.size := by rw [← hW0]; simp
  have hB0 : Below w.heap.size w W0 := by rw [← hW0]; exact (Below.refl _ _).alloc (Nat.le_refl _) _
  clear hW0
  have hs0 := (hs.below hB0).mono (show w.heap.size ≤ W0.heap.size by omega)
  clear hs
  go_wp2_with fail
  go_loopw [5] (fun v wr => ∃ i : Nat, v = .int .i64 i ∧ i ≤ 2 ∧ Below W0.heap.size W0 wr) (fun v _ => 2 - (intOf v).toNat)
  case atStart => exact ⟨0, rfl, by omega, Below.refl _ _⟩
  case round =>
    obtain ⟨i, rfl, hi, hb⟩ := hrel
    have hzr := hb.size
    by_cases hlt : i < 2
    · have g2 : (i : Int) < 2 := by omega
      obtain ⟨k, hk⟩ : ∃ k : UInt8, (#[Value.int .u8 (k0.toNat : Int), Value.int .u8 (k1.toNat : Int)] : Array Value)[i]? = some (.int .u8 (k.toNat : Int)) := by
        match i, hlt with
        | 0, _ => exact ⟨k0, rfl⟩
        | 1, _ => exact ⟨k1, rfl⟩
      have c0 := blk_cell (bBlk hb hz0 a0) hk
      have hsr := (hs0.below hb).mono hzr
      go_upto_region 7 with (fail)
      generalize hV : World.alloc wr _ = V
      have hown0 : V.ownsRow wr.heap.size 5 1 (.slice (some ⟨wr.heap.size, 0, none⟩) 1 1) (0 + 1) (bvs (k :: l.take 0)) := by rw [← hV]; exact own_one _ _ _ _ (Nat.le_refl _)
      have hbV : Below wr.heap.size wr V := by rw [← hV]; exact (Below.refl _ _).alloc (Nat.le_refl _) _
      have hBV : Below w.heap.size w V := (hB0.trans (hb.mono (by omega))).trans (hbV.mono (by omega))
      have hb0V := hb.trans (hbV.mono hzr)
      have hsV := (hsr.below hbV)
      have hzV : wr.heap.size < V.heap.size := by rw [← hV]; simp
      obtain ⟨B1, hB1⟩ : ∃ b, wr.heap.size = b := ⟨_, rfl⟩
      rw [hB1] at hown0 hbV hsV hzr hzV ⊢
      clear hV c0 hsr hB1 hb
      go_wp2_with fail
      go_loopw [6, 7] (fun v j wr => ∃ m : Nat, m ≤ n ∧ j = .int .i64 m ∧ wr.ownsRow B1 5 1 v (m + 1) (bvs (k :: l.take m)) ∧ Below B1 V wr) (fun _ j _ => n - (intOf j).toNat)
      case atStart => exact ⟨0, by omega, rfl, hown0, Below.refl _ _⟩
      case round =>
        clear hown0
        obtain ⟨m, hm, rfl, hown, hbq⟩ := hrel
        obtain ⟨A3, c3, rfl, hc3, hcm3⟩ := own_form hown
        have hzq := hbq.size
        have hsq := hsV.below hbq
        by_cases hlm2 : m < n
        · have g3 : (m : Int) < n := by omega
          obtain ⟨x, hx⟩ : ∃ x, l[m]? = some x := ⟨_, List.getElem?_eq_getElem (by omega)⟩
          obtain ⟨b, o, rfl, hbB, hr⟩ := hsq.at_ (by omega)
          have cx : wr.cell? ⟨b, o + m, none⟩ = some (.int .u8 (x.toNat : Int)) := hr m _ (by unfold bvs; rw [List.getElem?_map, hx]; rfl)
          have hbw : b < wr.heap.size := by omega
          have HT := Lib.hid (take_snoc hx)
          clear hr hx
          go_wp2_with (at_builtin; refine wpList_app _ rfl (.tmp 26) (.tmp 31) 22 rfl Try.underlying22 elemU8 rfl (hown.alloc _) rfl (Sl.new (n := 1) (heap_alloc_new _ _) rfl) (by simp [Value.oneCell']) (by simp only [maxLen]; omega) (by omega) (by simp; omega) ?_; intro A4 c4 w4 hown4 hg4 hb4 hat4)
          go_roundw
          case rel =>
            refine ⟨m + 1, by omega, by go_num, ?_, hbq.trans (((Below.refl _ _).alloc (by omega) _).trans hb4)⟩
            rw [HT.out, show bvs (k :: (l.take m ++ [x])) = bvs (k :: l.take m) ++ [.int .u8 (x.toNat : Int)] from by rw [← List.cons_append, bvs_append]; rfl]
            exact hown4
          case measure => simp [intOf]; omega
        · obtain rfl : m = n := by omega
          have g3 : ¬ (m : Int) < m := by omega
          rw [show l.take m = l from by rw [← hn]; exact List.take_length] at hown
          have hlR := sha_len (k :: l)
          have hof1 := hof' k
          have hrs1 := hrsum' k
          obtain ⟨RV, hRV⟩ : ∃ r, sha (k :: l) = r := ⟨_, rfl⟩
          rw [hRV] at hof1 hrs1 hlR
          have hin := Sl.of_own hown
          have c0 := blk_cell (bBlk (hb0V.trans (hbq.mono (by omega))) hz0 a0) hk
          have hsw := hsq.mono (show B1 ≤ wr.heap.size by omega)
          clear hown hsq hsV hRV
          have sa := dg_same hlR
          have hk8 := k.toNat_lt
          have wk : Hid (wrap64 (k.toNat : Int) = (k.toNat : Int)) := Lib.hid (by unfold wrap64; omega)
          go_wp2_with fail
          clear wk
          refine (hof1 _ _ _ _ (by omega) hsw).mono ?_
          rintro e w5 ⟨rfl, hb5⟩
          go_wp2_with fail
          refine (hrs1 _ _ _ _ hb5.size (hin.below hb5)).mono ?_
          rintro e w6 ⟨rfl, hb6⟩
          have hz5 := hb5.size
          have hb06 := (hb0V.trans (hbq.mono (by omega))).trans ((hb5.trans (hb6.mono hz5)).mono (by omega))
          go_wp2_with fail
          go_roundw
          case rel => exact ⟨i + 1, by go_num, by omega, hb06⟩
          case measure => simp [intOf]; omega
    · obtain rfl : i = 2 := by omega
      have g2 : ¬ ((2 : Nat) : Int) < 2 := by omega
      have c0 : wr.cell? ⟨w.heap.size, 0, none⟩ = some (.int .u8 (k0.toNat : Int)) := blk_cell (bBlk hb hz0 a0) rfl
      have hBr := hB0.trans (hb.mono (by omega))
      have hzw : w.heap.size < wr.heap.size := by omega
      obtain ⟨RV, hRV⟩ : ∃ r, sha [k0] = r := ⟨_, rfl⟩
      rw [hRV] at hof0 hrsum0 hl0
      have sa := dg_same hl0
      have wk : Hid (wrap64 (k0.toNat : Int) = (k0.toNat : Int)) := Lib.hid (by unfold wrap64; omega)
      have wk' : Hid (IntKind.i64.wrap (k0.toNat : Int) = (k0.toNat : Int)) := Lib.hid (wrap_small _ (by omega) (by omega))
      clear hof' hrsum' hRV a0 hs0
      go_upto_region 13 with (fail)
      let S : World → Prop := fun w' => w'.cell? ⟨w.heap.size, 0, none⟩ = some (.int .u8 (k0.toNat : Int))
      have hSS : ∀ w', Below wr.heap.size wr w' → S w' := fun w' hbx => by
        show w'.cell? _ = _
        rw [hbx.cell (p := ⟨w.heap.size, 0, none⟩) hzw]; exact c0
      have hS1 : S wr.drew := hSS _ ((Below.refl _ _).drew)
      refine wp_region_held (S := S) (by kernel_rfl) ?_
      change wpAnyH _ _ _ _ S _ _ _ wr.drew
      refine wpAnyH_take (i := 0) (oi := ?oi_1) (v := ?v_1) ?ho_1 ?h1_1 ?h2_1 ?h3_1 ?hq_1 (Or.inl ⟨?hw_1, ?hy_1⟩) ?hs_1 ?rest_1; (case h2_1 => kernel_rfl); (case h3_1 => kernel_rfl); (case ho_1 => (simp only [List.getElem?_toArray, List.getElem?_cons_zero, List.getElem?_cons_succ]; rfl)); (case h1_1 => kernel_rfl); (case hq_1 => exact fun _ _ _ h => h); (case hw_1 => rfl); (case hy_1 => (intro w' hSw; (try simp only [S] at hSw); go_simp; (try with_reducible rfl))); (case hs_1 => assumption); (try simp only [Act.put, List.setIfInBounds_toArray, List.set_cons_zero, List.set_cons_succ])
      refine wpAnyH_take (i := 1) (oi := ?oi_2) (v := ?v_2) ?ho_2 ?h1_2 ?h2_2 ?h3_2 ?hq_2 (Or.inl ⟨?hw_2, ?hy_2⟩) ?hs_2 ?rest_2; (case h2_2 => kernel_rfl); (case h3_2 => kernel_rfl); (case ho_2 => (simp only [List.getElem?_toArray, List.getElem?_cons_zero, List.getElem?_cons_succ]; rfl)); (case h1_2 => kernel_rfl); (case hq_2 => exact fun _ _ _ h => h); (case hw_2 => rfl); (case hy_2 => (intro w' hSw; (try simp only [S] at hSw); go_simp; (try with_reducible rfl))); (case hs_2 => assumption); (try simp only [Act.put, List.setIfInBounds_toArray, List.set_cons_zero, List.set_cons_succ])
      refine wpAnyH_take (i := 2) (oi := ?oi_3) (v := ?v_3) ?ho_3 ?h1_3 ?h2_3 ?h3_3 ?hq_3 (Or.inl ⟨?hw_3, ?hy_3⟩) ?hs_3 ?rest_3; (case h2_3 => kernel_rfl); (case h3_3 => kernel_rfl); (case ho_3 => (simp only [List.getElem?_toArray, List.getElem?_cons_zero, List.getElem?_cons_succ]; rfl)); (case h1_3 => kernel_rfl); (case hq_3 => exact fun _ _ _ h => h); (case hw_3 => rfl); (case hy_3 => (intro w' hSw; (try simp only [S] at hSw); go_simp; (try with_reducible rfl))); (case hs_3 => assumption); (try simp only [Act.put, List.setIfInBounds_toArray, List.set_cons_zero, List.set_cons_succ])
      refine wpAnyH_take (i := 4) (oi := ?oi_4) (v := ?v_4) ?ho_4 ?h1_4 ?h2_4 ?h3_4 ?hq_4 (Or.inl ⟨?hw_4, ?hy_4⟩) ?hs_4 ?rest_4; (case h2_4 => kernel_rfl); (case h3_4 => kernel_rfl); (case ho_4 => (simp only [List.getElem?_toArray, List.getElem?_cons_zero, List.getElem?_cons_succ]; rfl)); (case h1_4 => kernel_rfl); (case hq_4 => exact fun _ _ _ h => h); (case hw_4 => rfl); (case hy_4 => (intro w' hSw; (try simp only [S] at hSw); go_simp; (try with_reducible rfl))); (case hs_4 => assumption); (try simp only [Act.put, List.setIfInBounds_toArray, List.set_cons_zero, List.set_cons_succ])
      refine wpAnyH_take (i := 5) (oi := ?oi_5) (v := ?v_5) ?ho_5 ?h1_5 ?h2_5 ?h3_5 ?hq_5 (Or.inl ⟨?hw_5, ?hy_5⟩) ?hs_5 ?rest_5; (case h2_5 => kernel_rfl); (case h3_5 => kernel_rfl); (case ho_5 => (simp only [List.getElem?_toArray, List.getElem?_cons_zero, List.getElem?_cons_succ]; rfl)); (case h1_5 => kernel_rfl); (case hq_5 => exact fun _ _ _ h => h); (case hw_5 => rfl); (case hy_5 => (intro w' hSw; (try simp only [S] at hSw); go_simp; (try with_reducible rfl))); (case hs_5 => assumption); (try simp only [Act.put, List.setIfInBounds_toArray, List.set_cons_zero, List.set_cons_succ])
      refine wpAnyH_ready (rs := [3, 6]) (by kernel_rfl) (by simp) (AllReadyH.cons (o := ?oo3_14) ?hoo3_14 (fun K hK => ?step3) (AllReadyH.cons (o := ?oo6_14) ?hoo6_14 (fun K hK => ?step6) AllReadyH.nil)); (case hoo3_14 => (simp only [List.getElem?_toArray, List.getElem?_cons_zero, List.getElem?_cons_succ]; rfl)); (case hoo6_14 => (simp only [List.getElem?_toArray, List.getElem?_cons_zero, List.getElem?_cons_succ]; rfl))
      case step3 =>
        go_simp
        (try rw [wk.out])
        (try rw [wk'.out])
        refine Calls.mono (hof0 _) ?_
        rintro e Z ⟨rfl, hbZ⟩
        have hBZ : Below wr.heap.size wr Z := ((Below.refl _ wr).drew).trans hbZ
        clear hbZ
        refine hK.out _ _ (hSS _ hBZ) (fun _ => ?_)
        clear hK K
        (try simp only [Act.put, List.setIfInBounds_toArray, List.set_cons_zero, List.set_cons_succ])
        refine wpAnyH_ready (rs := [6]) (by kernel_rfl) (by simp) (AllReadyH.cons (o := ?oo6_15) ?hoo6_15 (fun K hK => ?steponly15) AllReadyH.nil); (case hoo6_15 => (simp only [List.getElem?_toArray, List.getElem?_cons_zero, List.getElem?_cons_succ]; rfl))
        go_simp
        refine hK.out _ _ (hSS _ (hBZ.alloc hBZ.size _)) (fun _ => ?_)
        clear hK K
        (try simp only [Act.put, List.setIfInBounds_toArray, List.set_cons_zero, List.set_cons_succ])
        refine wpAnyH_ready (rs := [7]) (by kernel_rfl) (by simp) (AllReadyH.cons (o := ?oo7_16) ?hoo7_16 (fun K hK => ?steponly16) AllReadyH.nil); (case hoo7_16 => (simp only [List.getElem?_toArray, List.getElem?_cons_zero, List.getElem?_cons_succ]; rfl))
        go_simp
        refine Calls.mono (hrsum0 _ _ _ _ (Nat.le_refl _) (Sl.new (n := 1) (cs := #[.int .u8 (k0.toNat : Int)]) (heap_alloc_new Z _) rfl)) ?_
        rintro e Z8 ⟨rfl, hbZ⟩
        replace hBZ := (hBZ.alloc hBZ.size (.cells #[.int .u8 (k0.toNat : Int)] 5)).trans (hbZ.mono (by rw [World.size_alloc]; have := hBZ.size; omega))
        clear hbZ
        refine hK.out _ _ (hSS _ hBZ) (fun _ => ?_)
        clear hK K
        (try simp only [Act.put, List.setIfInBounds_toArray, List.set_cons_zero, List.set_cons_succ])
        refine wpAnyH_take (i := 8) (oi := ?oi_6) (v := ?v_6) ?ho_6 ?h1_6 ?h2_6 ?h3_6 ?hq_6 (Or.inl ⟨?hw_6, ?hy_6⟩) ?hs_6 ?rest_6; (case h2_6 => kernel_rfl); (case h3_6 => kernel_rfl); (case ho_6 => (simp only [List.getElem?_toArray, List.getElem?_cons_zero, List.getElem?_cons_succ]; rfl)); (case h1_6 => kernel_rfl); (case hq_6 => exact fun _ _ _ h => h); (case hw_6 => rfl); (case hy_6 => (intro w' hSw; (try simp only [S] at hSw); go_simp; (try with_reducible rfl))); (case hs_6 => assumption); (try simp only [Act.put, List.setIfInBounds_toArray, List.set_cons_zero, List.set_cons_succ])
        refine wpAnyH_take (i := 9) (oi := ?oi_7) (v := ?v_7) ?ho_7 ?h1_7 ?h2_7 ?h3_7 ?hq_7 (Or.inl ⟨?hw_7, ?hy_7⟩) ?hs_7 ?rest_7; (case h2_7 => kernel_rfl); (case h3_7 => kernel_rfl); (case ho_7 => (simp only [List.getElem?_toArray, List.getElem?_cons_zero, List.getElem?_cons_succ]; rfl)); (case h1_7 => kernel_rfl); (case hq_7 => exact fun _ _ _ h => h); (case hw_7 => rfl); (case hy_7 => (intro w' hSw; (try simp only [S] at hSw); go_simp; (try with_reducible rfl))); (case hs_7 => assumption); (try simp only [Act.put, List.setIfInBounds_toArray, List.set_cons_zero, List.set_cons_succ])
        refine wpAnyH_ready (rs := [10]) (by kernel_rfl) (by simp) (AllReadyH.cons (o := ?oo10_17) ?hoo10_17 (fun K hK => ?steponly17) AllReadyH.nil); (case hoo10_17 => (simp only [List.getElem?_toArray, List.getElem?_cons_zero, List.getElem?_cons_succ]; rfl))
        go_simp
        refine Calls.mono (hwk _) ?_
        rintro e Z9 ⟨rfl, hbZ⟩
        replace hBZ := hBZ.trans (hbZ.mono hBZ.size)
        clear hbZ
        refine hK.out _ _ (hSS _ hBZ) (fun _ => ?_)
        clear hK K
        (try simp only [Act.put, List.setIfInBounds_toArray, List.set_cons_zero, List.set_cons_succ])
        refine wpAnyH_take (i := 11) (oi := ?oi_8) (v := ?v_8) ?ho_8 ?h1_8 ?h2_8 ?h3_8 ?hq_8 (Or.inl ⟨?hw_8, ?hy_8⟩) ?hs_8 ?rest_8; (case h2_8 => kernel_rfl); (case h3_8 => kernel_rfl); (case ho_8 => (simp only [List.getElem?_toArray, List.getElem?_cons_zero, List.getElem?_cons_succ]; rfl)); (case h1_8 => kernel_rfl); (case hq_8 => exact fun _ _ _ h => h); (case hw_8 => rfl); (case hy_8 => (intro w' hSw; (try simp only [S] at hSw); go_simp; (try with_reducible rfl))); (case hs_8 => assumption); (try simp only [Act.put, List.setIfInBounds_toArray, List.set_cons_zero, List.set_cons_succ])
        refine wpAnyH_take (i := 12) (oi := ?oi_9) (v := ?v_9) ?ho_9 ?h1_9 ?h2_9 ?h3_9 ?hq_9 (Or.inl ⟨?hw_9, ?hy_9⟩) ?hs_9 ?rest_9; (case h2_9 => kernel_rfl); (case h3_9 => kernel_rfl); (case ho_9 => (simp only [List.getElem?_toArray, List.getElem?_cons_zero, List.getElem?_cons_succ]; rfl)); (case h1_9 => kernel_rfl); (case hq_9 => exact fun _ _ _ h => h); (case hw_9 => rfl); (case hy_9 => (intro w' hSw; (try simp only [S] at hSw); go_simp; (try with_reducible rfl))); (case hs_9 => assumption); (try simp only [Act.put, List.setIfInBounds_toArray, List.set_cons_zero, List.set_cons_succ])
        refine wpAnyH_done (by kernel_rfl) ?_ _
        go_wp2
        go_ret
        exact Ret.mk rfl (hBr.trans (hBZ.mono (Nat.le_of_lt hzw)))
      case step6 =>
        go_simp
        refine hK.out _ _ (hSS _ (((Below.refl _ wr).alloc (Nat.le_refl _) _).drew)) (fun _ => ?_)
        clear hK K
        (try simp only [Act.put, List.setIfInBounds_toArray, List.set_cons_zero, List.set_cons_succ])
        refine wpAnyH_ready (rs := [3]) (by kernel_rfl) (by simp) (AllReadyH.cons (o := ?oo3_18) ?hoo3_18 (fun K hK => ?steponly18) AllReadyH.nil); (case hoo3_18 => (simp only [List.getElem?_toArray, List.getElem?_cons_zero, List.getElem?_cons_succ]; rfl))
        go_simp
        (try rw [wk.out])
        (try rw [wk'.out])
        refine Calls.mono (hof0 _) ?_
        rintro e Z ⟨rfl, hbZ⟩
        have hsl : Sl Z Z.heap.size 1 (some ⟨wr.heap.size, 0, none⟩) 1 (bvs [k0]) := (Sl.new (w := wr.alloc (.cells #[.int .u8 (k0.toNat : Int)] 5)) (n := 1) (cs := #[.int .u8 (k0.toNat : Int)]) (heap_alloc_new wr _) rfl).drew.next hbZ
        have hBZ : Below wr.heap.size wr Z := (((Below.refl _ wr).alloc (Nat.le_refl _) _).drew).trans (hbZ.mono (by show _ ≤ (World.alloc wr _).heap.size; rw [World.size_alloc]; omega))
        clear hbZ
        refine hK.out _ _ (hSS _ hBZ) (fun _ => ?_)
        clear hK K
        (try simp only [Act.put, List.setIfInBounds_toArray, List.set_cons_zero, List.set_cons_succ])
        refine wpAnyH_ready (rs := [7]) (by kernel_rfl) (by simp) (AllReadyH.cons (o := ?oo7_19) ?hoo7_19 (fun K hK => ?steponly19) AllReadyH.nil); (case hoo7_19 => (simp only [List.getElem?_toArray, List.getElem?_cons_zero, List.getElem?_cons_succ]; rfl))
        go_simp
        refine Calls.mono (hrsum0 _ _ _ _ (Nat.le_refl _) hsl) ?_
        rintro e Z8 ⟨rfl, hbZ⟩
        replace hBZ := hBZ.trans (hbZ.mono hBZ.size)
        clear hbZ
        refine hK.out _ _ (hSS _ hBZ) (fun _ => ?_)
        clear hK K
        (try simp only [Act.put, List.setIfInBounds_toArray, List.set_cons_zero, List.set_cons_succ])
        refine wpAnyH_take (i := 8) (oi := ?oi_10) (v := ?v_10) ?ho_10 ?h1_10 ?h2_10 ?h3_10 ?hq_10 (Or.inl ⟨?hw_10, ?hy_10⟩) ?hs_10 ?rest_10; (case h2_10 => kernel_rfl); (case h3_10 => kernel_rfl); (case ho_10 => (simp only [List.getElem?_toArray, List.getElem?_cons_zero, List.getElem?_cons_succ]; rfl)); (case h1_10 => kernel_rfl); (case hq_10 => exact fun _ _ _ h => h); (case hw_10 => rfl); (case hy_10 => (intro w' hSw; (try simp only [S] at hSw); go_simp; (try with_reducible rfl))); (case hs_10 => assumption); (try simp only [Act.put, List.setIfInBounds_toArray, List.set_cons_zero, List.set_cons_succ])
        refine wpAnyH_take (i := 9) (oi := ?oi_11) (v := ?v_11) ?ho_11 ?h1_11 ?h2_11 ?h3_11 ?hq_11 (Or.inl ⟨?hw_11, ?hy_11⟩) ?hs_11 ?rest_11; (case h2_11 => kernel_rfl); (case h3_11 => kernel_rfl); (case ho_11 => (simp only [List.getElem?_toArray, List.getElem?_cons_zero, List.getElem?_cons_succ]; rfl)); (case h1_11 => kernel_rfl); (case hq_11 => exact fun _ _ _ h => h); (case hw_11 => rfl); (case hy_11 => (intro w' hSw; (try simp only [S] at hSw); go_simp; (try with_reducible rfl))); (case hs_11 => assumption); (try simp only [Act.put, List.setIfInBounds_toArray, List.set_cons_zero, List.set_cons_succ])
        refine wpAnyH_ready (rs := [10]) (by kernel_rfl) (by simp) (AllReadyH.cons (o := ?oo10_20) ?hoo10_20 (fun K hK => ?steponly20) AllReadyH.nil); (case hoo10_20 => (simp only [List.getElem?_toArray, List.getElem?_cons_zero, List.getElem?_cons_succ]; rfl))
        go_simp
        refine Calls.mono (hwk _) ?_
        rintro e Z9 ⟨rfl, hbZ⟩
        replace hBZ := hBZ.trans (hbZ.mono hBZ.size)
        clear hbZ
        refine hK.out _ _ (hSS _ hBZ) (fun _ => ?_)
        clear hK K
        (try simp only [Act.put, List.setIfInBounds_toArray, List.set_cons_zero, List.set_cons_succ])
        refine wpAnyH_take (i := 11) (oi := ?oi_12) (v := ?v_12) ?ho_12 ?h1_12 ?h2_12 ?h3_12 ?hq_12 (Or.inl ⟨?hw_12, ?hy_12⟩) ?hs_12 ?rest_12; (case h2_12 => kernel_rfl); (case h3_12 => kernel_rfl); (case ho_12 => (simp only [List.getElem?_toArray, List.getElem?_cons_zero, List.getElem?_cons_succ]; rfl)); (case h1_12 => kernel_rfl); (case hq_12 => exact fun _ _ _ h => h); (case hw_12 => rfl); (case hy_12 => (intro w' hSw; (try simp only [S] at hSw); go_simp; (try with_reducible rfl))); (case hs_12 => assumption); (try simp only [Act.put, List.setIfInBounds_toArray, List.set_cons_zero, List.set_cons_succ])
        refine wpAnyH_take (i := 12) (oi := ?oi_13) (v := ?v_13) ?ho_13 ?h1_13 ?h2_13 ?h3_13 ?hq_13 (Or.inl ⟨?hw_13, ?hy_13⟩) ?hs_13 ?rest_13; (case h2_13 => kernel_rfl); (case h3_13 => kernel_rfl); (case ho_13 => (simp only [List.getElem?_toArray, List.getElem?_cons_zero, List.getElem?_cons_succ]; rfl)); (case h1_13 => kernel_rfl); (case hq_13 => exact fun _ _ _ h => h); (case hw_13 => rfl); (case hy_13 => (intro w' hSw; (try simp only [S] at hSw); go_simp; (try with_reducible rfl))); (case hs_13 => assumption); (try simp only [Act.put, List.setIfInBounds_toArray, List.set_cons_zero, List.set_cons_succ])
        refine wpAnyH_done (by kernel_rfl) ?_ _
        go_wp2
        go_ret
        exact Ret.mk rfl (hBr.trans (hBZ.mono (Nat.le_of_lt hzw)))
set_option maxRecDepth 100000 in
theorem shaKinds_walk {H : Type} {enc : TypeId × Value → H} {W : World} {base : Nat} {v0 v1 : Value} {d0 d1 : DataW H} {p0 p1 : List MemPlace}
    (k0 : Value.okWide Try.prog W .any base 37 v0) (h0 : DataW.Trod enc Try.prog W 0 (fun _ => true) true 37 v0 d0 p0)
    (k1 : Value.okWide Try.prog W .any base 22 v1) (h1 : DataW.Trod enc Try.prog W 0 (fun _ => true) true 22 v1 d1 p1)
    : Calls Try.prog 5 #[v0, v1] W fun e W' => e = .returned (.bool true) ∧ Below W.heap.size W W' := by
  obtain ⟨ks, hl, rfl⟩ := open_bytes_arr Try.underlying37 Try.underlying5 (by kernel_rfl) (by kernel_rfl) k0 h0
  obtain ⟨a, b, rfl⟩ := two_list hl
  obtain ⟨A, n, c, l, rfl, rfl, hn, hc, -, hsl⟩ := open_bytes_sl Try.underlying22 Try.underlying5 (by kernel_rfl) k1 h1
  exact shaKinds_core a b (l := l) (A := A) (c := c) W hsl (by omega)
end Go.Proofs.Ytacchnmoohlcpaa
