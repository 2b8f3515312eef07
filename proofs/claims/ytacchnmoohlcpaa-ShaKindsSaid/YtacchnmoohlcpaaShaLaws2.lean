/- The walk over ShaOrder. -/
import Derived.Test.YtacchnmoohlcpaaShaLaws
namespace Go.Proofs.Ytacchnmoohlcpaa
set_option linter.unusedSimpArgs false
set_option linter.unusedVariables false
open Go.RowKit Go.ChangeShapes Go.WideShapes Go.Sort
attribute [-go_sem] Builtin.append_

theorem wpList_load_mid_g {P : Program} {ops : Array Oper} {rest : List Oper} {o : Oper} {a : Act} {w : World} {Q : Exit → Act → World → Prop} (hw : Region.wanted o (yielded ops a.tmps) = true) (ty : TypeId) (x : Operand) (ho : o.op = .load ty x)
    (b off : Nat) (hx : a.eval x = .pointer (some ⟨b, off, none⟩)) (cs : List Value) (d : TypeDesc) (hc : w.rangeAt b off cs)
    (hu : P.underlying ty = some d) (hd : d.isRow = true) (hi : (P.info? ty).map (·.size) = some cs.length)
    (h : wpList P ops Q rest (a.put o.dst (.agg cs.toArray)) w) : wpList P ops Q (o :: rest) a w :=
  wpList_step fun _ hK => by rw [if_pos hw]; exact wp_load_mid ty x ho b off hx cs d hc hu hd hi (hK _ _ h)
theorem u8_small (k : UInt8) : u8 (k.toNat : Int) = k := by
  have := k.toNat_lt
  unfold u8
  rw [Int.emod_eq_of_lt (by omega) (by omega)]
  simp
theorem u8_wrap (k : UInt8) : u8 ((k.toNat : Int) + 256) = k := by
  have : ((k.toNat : Int) + 256) % 256 = (k.toNat : Int) % 256 := by omega
  unfold u8
  rw [this]
  exact u8_small k
set_option maxHeartbeats 8000000 in
set_option maxRecDepth 100000 in
/-- from the third line on -/
theorem shaOrder_core (k : UInt8) {l d0 d1 d2 : List UInt8} {A : Option Addr} {c : Nat} (h0 : d0.length = 32) (h1 : d1.length = 32) (h2 : d2.length = 32) (w : World) (hs : Sl w w.heap.size 1 A l.length (bvs l)) (hlm : l.length ≤ maxLen) :
    Calls Try.prog 4 #[.agg (bvs d0 ++ (bvs d1 ++ bvs d2)).toArray, .int .u8 (k.toNat : Int), .slice A l.length c] w (Ret w (.bool true)) := by
  have hwk := fun W => wakes_any W
  simp only [maxLen] at hlm
  by_cases hbig : 3000 < l.length
  · have g1 : (3000 : Int) < l.length := by omega
    go_enter Try.func4, Try.ntmps4
    go_wp2_with (first
      | (refine Great.wpList_boxTo rfl 35 (.tmp 0) rfl _ rfl _ rfl (bvs d0 ++ (bvs d1 ++ bvs d2)).toArray rfl ?_)
      | (go_at_call 15; refine (hwk _).mono ?_; rintro e w2 ⟨rfl, hb2⟩)
      | fail)
    go_ret
    exact Ret.mk rfl (((Below.refl _ w).alloc (Nat.le_refl _) _).trans (hb2.mono (by simp)))
  have g1 : ¬ (3000 : Int) < l.length := by omega
  have hsum := fun W A B c h1 h2 => sum_any (l := k :: l) (A := A) (B := B) (c := c) (by simp; omega) W h1 h2
  have hchk := fun W A B c h1 h2 => check_any (l := k :: l) (A := A) (B := B) (c := c) (by simp; omega) W h1 h2
  have hof := fun W A B c h1 h2 => of_any (kind := (k.toNat : Int)) (l := l) (A := A) (B := B) (c := c) (by omega) W h1 h2
  have hof2 := fun W A B c h1 h2 => of_any (kind := (k.toNat : Int) + 256) (l := l) (A := A) (B := B) (c := c) (by omega) W h1 h2
  rw [u8_small] at hof
  rw [u8_wrap] at hof2
  have hlA := sha_len (k :: l)
  have h4l := first4_len (k :: l)
  have hF4 : Hid (first4 (k :: l) = (sha (k :: l)).take 4) := Lib.hid rfl
  obtain ⟨LA, hLA⟩ : ∃ r, sha (k :: l) = r := ⟨_, rfl⟩
  obtain ⟨F, hF⟩ : ∃ r, first4 (k :: l) = r := ⟨_, rfl⟩
  rw [hLA] at hsum hof hof2 hlA hF4
  rw [hF] at hchk h4l hF4
  clear hLA hF
  have hk8 := k.toNat_lt
  have hbc : bvs (k :: l) = [.int .u8 (k.toNat : Int)] ++ bvs l := rfl
  have hlc : (k :: l).length = 1 + l.length := by simp; omega
  rw [hbc, hlc] at hsum hchk
  clear hbc hlc
  obtain ⟨n, hn⟩ : ∃ n, l.length = n := ⟨_, rfl⟩
  rw [hn] at hs hsum hchk hof hof2 g1 ⊢
  have hn3 : n ≤ 3000 := by omega
  have l01 := fun W => less_any h0 h1 W
  have l10 := fun W => less_any h1 h0 W
  have l00 := fun W => less_any h0 h0 W
  have l12 := fun W => less_any h1 h2 W
  have l02 := fun W => less_any h0 h2 W
  have e01 := fun W => dg_eq h0 h1 W
  rw [lt8_irrefl] at l00
  have hT := @lt8_trans d0 d1 d2
  have hcase : Hid ((lt8 d0 d1 = true ∧ lt8 d1 d0 = false ∧ (d0 == d1) = false) ∨ (lt8 d0 d1 = false ∧ lt8 d1 d0 = true ∧ (d0 == d1) = false) ∨ (lt8 d0 d1 = false ∧ lt8 d1 d0 = false ∧ (d0 == d1) = true)) := Lib.hid (by
    rcases lt8_total d0 d1 with h | h | h
    · refine .inl ⟨h, lt8_asymm h, ?_⟩
      rw [beq_eq_false_iff_ne]; intro e; subst e; rw [lt8_irrefl] at h; cases h
    · subst h; exact .inr (.inr ⟨lt8_irrefl _, lt8_irrefl _, by simp⟩)
    · refine .inr (.inl ⟨lt8_asymm h, h, ?_⟩)
      rw [beq_eq_false_iff_ne]; intro e; subst e; rw [lt8_irrefl] at h; cases h)
  obtain ⟨L01, hL01⟩ : ∃ b, lt8 d0 d1 = b := ⟨_, rfl⟩
  obtain ⟨L10, hL10⟩ : ∃ b, lt8 d1 d0 = b := ⟨_, rfl⟩
  obtain ⟨L12, hL12⟩ : ∃ b, lt8 d1 d2 = b := ⟨_, rfl⟩
  obtain ⟨L02, hL02⟩ : ∃ b, lt8 d0 d2 = b := ⟨_, rfl⟩
  obtain ⟨E01, hE01⟩ : ∃ b, (d0 == d1) = b := ⟨_, rfl⟩
  rw [hL01] at l01 hT hcase
  rw [hL10] at l10 hcase
  rw [hL12] at l12 hT
  rw [hL02] at l02 hT
  rw [hE01] at e01 hcase
  clear hL01 hL10 hL12 hL02 hE01
  have hTh := Lib.hid hT
  clear hT
  obtain ⟨z32, hz⟩ : ∃ z, zs 32 = z := ⟨_, rfl⟩
  have hzl : z32.length = 32 := by rw [← hz]; rfl
  have hzZ := d32Z
  rw [hz] at hzZ
  clear hz
  obtain ⟨y4, hy⟩ : ∃ z, zs 4 = z := ⟨_, rfl⟩
  have hyl : y4.length = 4 := by rw [← hy]; rfl
  have hyZ := d4Z
  rw [hy] at hyZ
  clear hy
  go_enter Try.func4, Try.ntmps4
  go_upto_region 1 with (first
    | (refine Great.wpList_boxTo rfl 35 (.tmp 0) rfl _ rfl _ rfl (bvs d0 ++ (bvs d1 ++ bvs d2)).toArray rfl ?_)
    | fail)
  generalize hW0 : World.alloc w _ = W0
  have a0 : W0.heap[w.heap.size]? = some (.cells (bvs d0 ++ (bvs d1 ++ bvs d2)).toArray 35) := by rw [← hW0]; exact heap_alloc_new _ _
  have hz0 : w.heap.size < W0.heap.size := by rw [← hW0]; simp
  have hB0 : Below w.heap.size w W0 := by rw [← hW0]; exact (Below.refl _ _).alloc (Nat.le_refl _) _
  clear hW0
  have hs0 := (hs.below hB0).mono (show w.heap.size ≤ W0.heap.size by omega)
  clear hs
  have r0 : W0.rangeAt w.heap.size 0 (bvs d0) := (range_append.1 (cells_range a0)).1
  have r1 : W0.rangeAt w.heap.size 32 (bvs d1) := by have := (range_append.1 (range_append.1 (cells_range a0)).2).1; rwa [bvs_len, h0] at this
  have r2 : W0.rangeAt w.heap.size 64 (bvs d2) := by have := (range_append.1 (range_append.1 (cells_range a0)).2).2; rwa [bvs_len, bvs_len, h0, h1] at this
  clear a0
  go_upto_region 3 with (fail)
  let S : World → Prop := fun w' => w'.rangeAt w.heap.size 0 (bvs d0) ∧ w'.rangeAt w.heap.size 32 (bvs d1)
  have hSS : ∀ w', Below W0.heap.size W0 w' → S w' := fun w' hb => ⟨bRange hb hz0 r0, bRange hb hz0 r1⟩
  have hS1 : S W0.drew := hSS _ ((Below.refl _ _).drew)
  refine wp_region_held (S := S) (by kernel_rfl) ?_
  change wpAnyH _ _ _ _ S _ _ _ W0.drew
  refine wpAnyH_take (i := 0) (oi := ?oi_1) (v := ?v_1) ?ho_1 ?h1_1 ?h2_1 ?h3_1 ?hq_1 (Or.inl ⟨?hw_1, ?hy_1⟩) ?hs_1 ?rest_1; (case h2_1 => kernel_rfl); (case h3_1 => kernel_rfl); (case ho_1 => (simp only [List.getElem?_toArray, List.getElem?_cons_zero, List.getElem?_cons_succ]; rfl)); (case h1_1 => kernel_rfl); (case hq_1 => exact fun _ _ _ h => h); (case hw_1 => rfl); (case hy_1 => (intro w' hSw; (try simp only [S] at hSw); go_simp; (try with_reducible rfl))); (case hs_1 => assumption); (try simp only [Act.put, List.setIfInBounds_toArray, List.set_cons_zero, List.set_cons_succ])
  refine wpAnyH_take (i := 2) (oi := ?oi_2) (v := ?v_2) ?ho_2 ?h1_2 ?h2_2 ?h3_2 ?hq_2 (Or.inl ⟨?hw_2, ?hy_2⟩) ?hs_2 ?rest_2; (case h2_2 => kernel_rfl); (case h3_2 => kernel_rfl); (case ho_2 => (simp only [List.getElem?_toArray, List.getElem?_cons_zero, List.getElem?_cons_succ]; rfl)); (case h1_2 => kernel_rfl); (case hq_2 => exact fun _ _ _ h => h); (case hw_2 => rfl); (case hy_2 => (intro w' hSw; (try simp only [S] at hSw); go_simp; (try with_reducible rfl))); (case hs_2 => assumption); (try simp only [Act.put, List.setIfInBounds_toArray, List.set_cons_zero, List.set_cons_succ])
  refine wpAnyH_take (i := 5) (oi := ?oi_3) (v := ?v_3) ?ho_3 ?h1_3 ?h2_3 ?h3_3 ?hq_3 (Or.inl ⟨?hw_3, ?hy_3⟩) ?hs_3 ?rest_3; (case h2_3 => kernel_rfl); (case h3_3 => kernel_rfl); (case ho_3 => (simp only [List.getElem?_toArray, List.getElem?_cons_zero, List.getElem?_cons_succ]; rfl)); (case h1_3 => kernel_rfl); (case hq_3 => exact fun _ _ _ h => h); (case hw_3 => rfl); (case hy_3 => (intro w' hSw; (try simp only [S] at hSw); go_simp; (try with_reducible rfl))); (case hs_3 => assumption); (try simp only [Act.put, List.setIfInBounds_toArray, List.set_cons_zero, List.set_cons_succ])
  refine wpAnyH_take (i := 7) (oi := ?oi_4) (v := ?v_4) ?ho_4 ?h1_4 ?h2_4 ?h3_4 ?hq_4 (Or.inl ⟨?hw_4, ?hy_4⟩) ?hs_4 ?rest_4; (case h2_4 => kernel_rfl); (case h3_4 => kernel_rfl); (case ho_4 => (simp only [List.getElem?_toArray, List.getElem?_cons_zero, List.getElem?_cons_succ]; rfl)); (case h1_4 => kernel_rfl); (case hq_4 => exact fun _ _ _ h => h); (case hw_4 => rfl); (case hy_4 => (intro w' hSw; (try simp only [S] at hSw); go_simp; (try with_reducible rfl))); (case hs_4 => assumption); (try simp only [Act.put, List.setIfInBounds_toArray, List.set_cons_zero, List.set_cons_succ])
  refine wpAnyH_take (i := 1) (oi := ?oi_25) (v := ?v_25) ?ho_25 ?h1_25 ?h2_25 ?h3_25 ?hq_25 (Or.inl ⟨?hw_25, ?hy_25⟩) ?hs_25 ?rest_25; (case h2_25 => kernel_rfl); (case h3_25 => kernel_rfl); (case ho_25 => (simp only [List.getElem?_toArray, List.getElem?_cons_zero, List.getElem?_cons_succ]; rfl)); (case h1_25 => kernel_rfl); (case hq_25 => exact fun _ _ _ h => h); (case hw_25 => rfl); (case hy_25 => (intro w' hSw; refine exec_load_row (x := .tmp 16) ?_ ?_ hSw.1 Try.underlying24 ?_ (by rw [bvs_len, h0]; exact d32_size) <;> rfl)); (case hs_25 => assumption); (try simp only [Act.put, List.setIfInBounds_toArray, List.set_cons_zero, List.set_cons_succ])
  refine wpAnyH_take (i := 3) (oi := ?oi_26) (v := ?v_26) ?ho_26 ?h1_26 ?h2_26 ?h3_26 ?hq_26 (Or.inl ⟨?hw_26, ?hy_26⟩) ?hs_26 ?rest_26; (case h2_26 => kernel_rfl); (case h3_26 => kernel_rfl); (case ho_26 => (simp only [List.getElem?_toArray, List.getElem?_cons_zero, List.getElem?_cons_succ]; rfl)); (case h1_26 => kernel_rfl); (case hq_26 => exact fun _ _ _ h => h); (case hw_26 => rfl); (case hy_26 => (intro w' hSw; refine exec_load_row (x := .tmp 18) ?_ ?_ hSw.2 Try.underlying24 ?_ (by rw [bvs_len, h1]; exact d32_size) <;> rfl)); (case hs_26 => assumption); (try simp only [Act.put, List.setIfInBounds_toArray, List.set_cons_zero, List.set_cons_succ])
  refine wpAnyH_take (i := 6) (oi := ?oi_27) (v := ?v_27) ?ho_27 ?h1_27 ?h2_27 ?h3_27 ?hq_27 (Or.inl ⟨?hw_27, ?hy_27⟩) ?hs_27 ?rest_27; (case h2_27 => kernel_rfl); (case h3_27 => kernel_rfl); (case ho_27 => (simp only [List.getElem?_toArray, List.getElem?_cons_zero, List.getElem?_cons_succ]; rfl)); (case h1_27 => kernel_rfl); (case hq_27 => exact fun _ _ _ h => h); (case hw_27 => rfl); (case hy_27 => (intro w' hSw; refine exec_load_row (x := .tmp 21) ?_ ?_ hSw.2 Try.underlying24 ?_ (by rw [bvs_len, h1]; exact d32_size) <;> rfl)); (case hs_27 => assumption); (try simp only [Act.put, List.setIfInBounds_toArray, List.set_cons_zero, List.set_cons_succ])
  refine wpAnyH_take (i := 8) (oi := ?oi_28) (v := ?v_28) ?ho_28 ?h1_28 ?h2_28 ?h3_28 ?hq_28 (Or.inl ⟨?hw_28, ?hy_28⟩) ?hs_28 ?rest_28; (case h2_28 => kernel_rfl); (case h3_28 => kernel_rfl); (case ho_28 => (simp only [List.getElem?_toArray, List.getElem?_cons_zero, List.getElem?_cons_succ]; rfl)); (case h1_28 => kernel_rfl); (case hq_28 => exact fun _ _ _ h => h); (case hw_28 => rfl); (case hy_28 => (intro w' hSw; refine exec_load_row (x := .tmp 23) ?_ ?_ hSw.1 Try.underlying24 ?_ (by rw [bvs_len, h0]; exact d32_size) <;> rfl)); (case hs_28 => assumption); (try simp only [Act.put, List.setIfInBounds_toArray, List.set_cons_zero, List.set_cons_succ])
  refine wpAnyH_ready (rs := [4]) (by kernel_rfl) (by simp) (AllReadyH.cons (o := ?oo4_31) ?hoo4_31 (fun K hK => ?steponly31) AllReadyH.nil); (case hoo4_31 => (simp only [List.getElem?_toArray, List.getElem?_cons_zero, List.getElem?_cons_succ]; rfl))
  go_simp
  refine Calls.mono (l01 _) ?_
  rintro e Z ⟨rfl, hbZ⟩
  have hBZ : Below W0.heap.size W0 Z := ((Below.refl _ W0).drew).trans hbZ
  clear hbZ
  refine hK.out _ _ (hSS _ hBZ) (fun _ => ?_)
  clear hK K
  (try simp only [Act.put, List.setIfInBounds_toArray, List.set_cons_zero, List.set_cons_succ])
  refine wpAnyH_ready (rs := [9]) (by kernel_rfl) (by simp) (AllReadyH.cons (o := ?oo9_32) ?hoo9_32 (fun K hK => ?steponly32) AllReadyH.nil); (case hoo9_32 => (simp only [List.getElem?_toArray, List.getElem?_cons_zero, List.getElem?_cons_succ]; rfl))
  go_simp
  refine Calls.mono (l10 _) ?_
  rintro e Z1 ⟨rfl, hbZ⟩
  replace hBZ := hBZ.trans (hbZ.mono hBZ.size)
  clear hbZ
  refine hK.out _ _ (hSS _ hBZ) (fun _ => ?_)
  clear hK K
  (try simp only [Act.put, List.setIfInBounds_toArray, List.set_cons_zero, List.set_cons_succ])
  refine wpAnyH_take (i := 10) (oi := ?oi_5) (v := ?v_5) ?ho_5 ?h1_5 ?h2_5 ?h3_5 ?hq_5 (Or.inl ⟨?hw_5, ?hy_5⟩) ?hs_5 ?rest_5; (case h2_5 => kernel_rfl); (case h3_5 => kernel_rfl); (case ho_5 => (simp only [List.getElem?_toArray, List.getElem?_cons_zero, List.getElem?_cons_succ]; rfl)); (case h1_5 => kernel_rfl); (case hq_5 => exact fun _ _ _ h => h); (case hw_5 => rfl); (case hy_5 => (intro w' hSw; (try simp only [S] at hSw); go_simp; (try with_reducible rfl))); (case hs_5 => assumption); (try simp only [Act.put, List.setIfInBounds_toArray, List.set_cons_zero, List.set_cons_succ])
  refine wpAnyH_take (i := 11) (oi := ?oi_6) (v := ?v_6) ?ho_6 ?h1_6 ?h2_6 ?h3_6 ?hq_6 (Or.inl ⟨?hw_6, ?hy_6⟩) ?hs_6 ?rest_6; (case h2_6 => kernel_rfl); (case h3_6 => kernel_rfl); (case ho_6 => (simp only [List.getElem?_toArray, List.getElem?_cons_zero, List.getElem?_cons_succ]; rfl)); (case h1_6 => kernel_rfl); (case hq_6 => exact fun _ _ _ h => h); (case hw_6 => rfl); (case hy_6 => (intro w' hSw; (try simp only [S] at hSw); go_simp; (try with_reducible rfl))); (case hs_6 => assumption); (try simp only [Act.put, List.setIfInBounds_toArray, List.set_cons_zero, List.set_cons_succ])
  refine wpAnyH_done (by kernel_rfl) ?_ _
  clear hS1 hSS
  have hzZ1 := hBZ.size
  replace r0 := bRange hBZ hz0 r0
  replace r1 := bRange hBZ hz0 r1
  replace r2 := bRange hBZ hz0 r2
  replace hs0 := (hs0.below hBZ).mono hzZ1
  replace hB0 := hB0.trans (hBZ.mono (by omega))
  have hz1 : w.heap.size < Z1.heap.size := by omega
  clear hBZ hzZ1
  go_upto_region 4 with (fail)
  have hBV := Below.refl Z1.heap.size Z1
  go_cut [66] from 26 to 66 (fun s66 wx => s66 = .bool false ∧ Below Z1.heap.size Z1 wx)
  case first =>
    clear hsum hchk hof hof2 hwk hs0 hB0 hzZ hyZ hF4
    rcases hcase.out with ⟨rfl, rfl, rfl⟩ | ⟨rfl, rfl, rfl⟩ | ⟨rfl, rfl, rfl⟩
    · cases L12 with
      | false =>
        clear l01 l10 l02 hTh hcase
        go_wp2_with (first
          | (refine wpList_load_mid_g (by simp [Region.wanted, yielded, Act.put]) 24 (.tmp 35) rfl _ 0 rfl (bvs d0) _ (by exact r0) Try.underlying24 rfl (by rw [bvs_len, h0]; exact d32_size) ?_)
          | (refine wpList_load_mid_g (by simp [Region.wanted, yielded, Act.put]) 24 (.tmp 37) rfl _ 32 rfl (bvs d1) _ (by exact r1) Try.underlying24 rfl (by rw [bvs_len, h1]; exact d32_size) ?_)
          | (refine wpList_load_mid_g (by simp [Region.wanted, yielded, Act.put]) 24 (.tmp 43) rfl _ 0 rfl (bvs d0) _ (by exact r0) Try.underlying24 rfl (by rw [bvs_len, h0]; exact d32_size) ?_)
          | (refine wpList_load_mid_g (by simp [Region.wanted, yielded, Act.put]) 24 (.tmp 45) rfl _ 0 rfl (bvs d0) _ (by exact r0) Try.underlying24 rfl (by rw [bvs_len, h0]; exact d32_size) ?_)
          | fail)
        refine Calls.mono (l00 _) ?_
        rintro e V1 ⟨rfl, hbV⟩
        replace r0 := bRange hbV hz1 r0
        replace r1 := bRange hbV hz1 r1
        replace r2 := bRange hbV hz1 r2
        replace hz1 := Nat.lt_of_lt_of_le hz1 hbV.size
        replace hBV := hBV.trans (hbV.mono hBV.size)
        clear hbV
        go_wp2_with (first
          | (refine wpList_load_mid_g (by simp [Region.wanted, yielded, Act.put]) 24 (.tmp 52) rfl _ 32 rfl (bvs d1) _ (by exact r1) Try.underlying24 rfl (by rw [bvs_len, h1]; exact d32_size) ?_)
          | (refine wpList_load_mid_g (by simp [Region.wanted, yielded, Act.put]) 24 (.tmp 54) rfl _ 64 rfl (bvs d2) _ (by exact r2) Try.underlying24 rfl (by rw [bvs_len, h2]; exact d32_size) ?_)
          | fail)
        refine Calls.mono (l12 _) ?_
        rintro e V2 ⟨rfl, hbV⟩
        replace r0 := bRange hbV hz1 r0
        replace r1 := bRange hbV hz1 r1
        replace r2 := bRange hbV hz1 r2
        replace hz1 := Nat.lt_of_lt_of_le hz1 hbV.size
        replace hBV := hBV.trans (hbV.mono hBV.size)
        clear hbV
        go_wp2_with fail
        go_meet
        exact ⟨rfl, hBV⟩
      | true =>
        obtain rfl : L02 = true := hTh.out rfl rfl
        clear l01 l10 hTh hcase
        go_wp2_with (first
          | (refine wpList_load_mid_g (by simp [Region.wanted, yielded, Act.put]) 24 (.tmp 35) rfl _ 0 rfl (bvs d0) _ (by exact r0) Try.underlying24 rfl (by rw [bvs_len, h0]; exact d32_size) ?_)
          | (refine wpList_load_mid_g (by simp [Region.wanted, yielded, Act.put]) 24 (.tmp 37) rfl _ 32 rfl (bvs d1) _ (by exact r1) Try.underlying24 rfl (by rw [bvs_len, h1]; exact d32_size) ?_)
          | (refine wpList_load_mid_g (by simp [Region.wanted, yielded, Act.put]) 24 (.tmp 43) rfl _ 0 rfl (bvs d0) _ (by exact r0) Try.underlying24 rfl (by rw [bvs_len, h0]; exact d32_size) ?_)
          | (refine wpList_load_mid_g (by simp [Region.wanted, yielded, Act.put]) 24 (.tmp 45) rfl _ 0 rfl (bvs d0) _ (by exact r0) Try.underlying24 rfl (by rw [bvs_len, h0]; exact d32_size) ?_)
          | fail)
        refine Calls.mono (l00 _) ?_
        rintro e V1 ⟨rfl, hbV⟩
        replace r0 := bRange hbV hz1 r0
        replace r1 := bRange hbV hz1 r1
        replace r2 := bRange hbV hz1 r2
        replace hz1 := Nat.lt_of_lt_of_le hz1 hbV.size
        replace hBV := hBV.trans (hbV.mono hBV.size)
        clear hbV
        go_wp2_with (first
          | (refine wpList_load_mid_g (by simp [Region.wanted, yielded, Act.put]) 24 (.tmp 52) rfl _ 32 rfl (bvs d1) _ (by exact r1) Try.underlying24 rfl (by rw [bvs_len, h1]; exact d32_size) ?_)
          | (refine wpList_load_mid_g (by simp [Region.wanted, yielded, Act.put]) 24 (.tmp 54) rfl _ 64 rfl (bvs d2) _ (by exact r2) Try.underlying24 rfl (by rw [bvs_len, h2]; exact d32_size) ?_)
          | fail)
        refine Calls.mono (l12 _) ?_
        rintro e V2 ⟨rfl, hbV⟩
        replace r0 := bRange hbV hz1 r0
        replace r1 := bRange hbV hz1 r1
        replace r2 := bRange hbV hz1 r2
        replace hz1 := Nat.lt_of_lt_of_le hz1 hbV.size
        replace hBV := hBV.trans (hbV.mono hBV.size)
        clear hbV
        go_wp2_with (first
          | (refine wpList_load_mid_g (by simp [Region.wanted, yielded, Act.put]) 24 (.tmp 59) rfl _ 0 rfl (bvs d0) _ (by exact r0) Try.underlying24 rfl (by rw [bvs_len, h0]; exact d32_size) ?_)
          | (refine wpList_load_mid_g (by simp [Region.wanted, yielded, Act.put]) 24 (.tmp 61) rfl _ 64 rfl (bvs d2) _ (by exact r2) Try.underlying24 rfl (by rw [bvs_len, h2]; exact d32_size) ?_)
          | fail)
        refine Calls.mono (l02 _) ?_
        rintro e V3 ⟨rfl, hbV⟩
        replace r0 := bRange hbV hz1 r0
        replace r1 := bRange hbV hz1 r1
        replace r2 := bRange hbV hz1 r2
        replace hz1 := Nat.lt_of_lt_of_le hz1 hbV.size
        replace hBV := hBV.trans (hbV.mono hBV.size)
        clear hbV
        go_wp2_with fail
        go_meet
        exact ⟨rfl, hBV⟩
    · clear l01 l10 l02 l12 hTh hcase
      go_wp2_with (first
        | (refine wpList_load_mid_g (by simp [Region.wanted, yielded, Act.put]) 24 (.tmp 35) rfl _ 0 rfl (bvs d0) _ (by exact r0) Try.underlying24 rfl (by rw [bvs_len, h0]; exact d32_size) ?_)
        | (refine wpList_load_mid_g (by simp [Region.wanted, yielded, Act.put]) 24 (.tmp 37) rfl _ 32 rfl (bvs d1) _ (by exact r1) Try.underlying24 rfl (by rw [bvs_len, h1]; exact d32_size) ?_)
        | (refine wpList_load_mid_g (by simp [Region.wanted, yielded, Act.put]) 24 (.tmp 43) rfl _ 0 rfl (bvs d0) _ (by exact r0) Try.underlying24 rfl (by rw [bvs_len, h0]; exact d32_size) ?_)
        | (refine wpList_load_mid_g (by simp [Region.wanted, yielded, Act.put]) 24 (.tmp 45) rfl _ 0 rfl (bvs d0) _ (by exact r0) Try.underlying24 rfl (by rw [bvs_len, h0]; exact d32_size) ?_)
        | fail)
      refine Calls.mono (l00 _) ?_
      rintro e V1 ⟨rfl, hbV⟩
      replace r0 := bRange hbV hz1 r0
      replace r1 := bRange hbV hz1 r1
      replace r2 := bRange hbV hz1 r2
      replace hz1 := Nat.lt_of_lt_of_le hz1 hbV.size
      replace hBV := hBV.trans (hbV.mono hBV.size)
      clear hbV
      go_wp2_with fail
      go_meet
      exact ⟨rfl, hBV⟩
    · clear l01 l10 l02 l12 hTh hcase
      go_wp2_with (first
        | (refine wpList_load_mid_g (by simp [Region.wanted, yielded, Act.put]) 24 (.tmp 35) rfl _ 0 rfl (bvs d0) _ (by exact r0) Try.underlying24 rfl (by rw [bvs_len, h0]; exact d32_size) ?_)
        | (refine wpList_load_mid_g (by simp [Region.wanted, yielded, Act.put]) 24 (.tmp 37) rfl _ 32 rfl (bvs d1) _ (by exact r1) Try.underlying24 rfl (by rw [bvs_len, h1]; exact d32_size) ?_)
        | (refine wpList_load_mid_g (by simp [Region.wanted, yielded, Act.put]) 24 (.tmp 43) rfl _ 0 rfl (bvs d0) _ (by exact r0) Try.underlying24 rfl (by rw [bvs_len, h0]; exact d32_size) ?_)
        | (refine wpList_load_mid_g (by simp [Region.wanted, yielded, Act.put]) 24 (.tmp 45) rfl _ 0 rfl (bvs d0) _ (by exact r0) Try.underlying24 rfl (by rw [bvs_len, h0]; exact d32_size) ?_)
        | fail)
      refine Calls.mono (l00 _) ?_
      rintro e V1 ⟨rfl, hbV⟩
      replace r0 := bRange hbV hz1 r0
      replace r1 := bRange hbV hz1 r1
      replace r2 := bRange hbV hz1 r2
      replace hz1 := Nat.lt_of_lt_of_le hz1 hbV.size
      replace hBV := hBV.trans (hbV.mono hBV.size)
      clear hbV
      go_wp2_with fail
      go_meet
      exact ⟨rfl, hBV⟩
  case rest =>
    obtain ⟨rfl, hbc⟩ := hcut
    replace hs0 := (hs0.below hbc).mono hbc.size
    replace hB0 := hB0.trans (hbc.mono (by omega))
    have hzc := hbc.size
    clear hbc l01 l10 l00 l12 l02 e01 hcase hTh r0 r1 r2 hBV
    go_upto_region 7 with (first
      | (at_builtin; refine wpList_app _ rfl (.tmp 68) (.tmp 69) 22 rfl Try.underlying22 elemU8 rfl (own_one wc wc.heap.size _ _ (Nat.le_refl _)) rfl (hs0.below ((Below.refl _ _).alloc (Nat.le_refl _) _)) (oneCell_bvs _) (by simp only [maxLen]; omega) (by omega) (by rw [World.size_alloc]; omega) ?_; intro A1 c1 w1 hown hg1 hb1 hat1)
      | fail)
    have hb01 : Below wc.heap.size wc w1 := ((Below.refl _ wc).alloc (Nat.le_refl _) _).trans hb1
    have hin := Sl.of_own hown
    have hz1' := hb01.size
    replace hs0 := (hs0.below hb01).mono hz1'
    replace hB0 := hB0.trans (hb01.mono (by omega))
    clear hown hg1 hb1 hat1
    go_wp2_with fail
    refine (hsum _ _ _ _ (Nat.le_refl _) hin).mono ?_
    rintro e w2 ⟨rfl, hb2⟩
    go_wp2_with fail
    refine (hchk _ _ _ _ (Nat.le_refl _) (hin.next hb2)).mono ?_
    rintro e w3 ⟨rfl, hb3⟩
    have hz2 := hb2.size
    have hb13 := hb2.trans (hb3.mono hz2)
    have hz3 := hb3.size
    clear hsum hchk hb2 hb3
    have hh1 : ((w3.alloc (.cells (bvs z32).toArray 24)).alloc (.cells (bvs y4).toArray 27)).heap[w3.heap.size]? = some (.cells (bvs z32).toArray 24) := heap_alloc_fst _ _ _
    have hh2 : (((w3.alloc (.cells (bvs z32).toArray 24)).alloc (.cells (bvs y4).toArray 27)).setRow w3.heap.size (bvs LA).toArray).heap[w3.heap.size + 1]? = some (.cells (bvs y4).toArray 27) := (setRow_other _ w3.heap.size (w3.heap.size + 1) _ (by omega)).trans (heap_alloc_two w3 _ _)
    go_simp
    rename_i HK
    apply HK
    refine wpList_new rfl hzZ rfl ?_
    refine wpList_new rfl hyZ rfl ?_
    rw [show (w3.alloc (.cells (bvs z32).toArray 24)).heap.size = w3.heap.size + 1 from World.size_alloc _ _]
    (try simp only [Act.put, List.setIfInBounds_toArray, List.set_cons_zero, List.set_cons_succ])
    refine wpList_store_row rfl 24 (.tmp 10) (.tmp 72) rfl _ (bvs LA).toArray rfl rfl _ (bvs z32).toArray (by exact hh1) (d32_info hlA) (by rw [List.size_toArray, List.size_toArray, bvs_len, bvs_len, hzl, hlA]) (all_oneCell_toArray (oneCell_bvs _)) ?_
    refine wpList_store_row rfl 27 (.tmp 11) (.tmp 74) rfl _ (bvs F).toArray rfl rfl _ (bvs y4).toArray (by exact hh2) (d4_info h4l) (by rw [List.size_toArray, List.size_toArray, bvs_len, bvs_len, hyl, h4l]) (all_oneCell_toArray (oneCell_bvs _)) ?_
    go_upto_region 8 with (fail)
    generalize hX : World.setRow (World.setRow (World.alloc (World.alloc w3 _) _) _ _) _ _ = Y
    have a2 : Y.heap[w3.heap.size + 1]? = some (.cells (bvs F).toArray 27) := by rw [← hX]; exact setRow_heap _ _ _ _ _ _ hh2
    have a1 : Y.heap[w3.heap.size]? = some (.cells (bvs LA).toArray 24) := by rw [← hX]; exact (setRow_other _ (w3.heap.size + 1) w3.heap.size _ (by omega)).trans (setRow_heap _ _ _ _ _ _ hh1)
    clear hh1 hh2
    have hbX : Below w3.heap.size w3 Y := by rw [← hX]; exact bSetRow (bSetRow (((Below.refl _ w3).alloc (Nat.le_refl _) _).alloc (by rw [World.size_alloc]; omega) _) (Nat.le_refl _) _) (Nat.le_succ _) _
    have hb1Y := hb13.trans (hbX.mono (by omega))
    have hzY := hbX.size
    replace hs0 := (hs0.below hb1Y).mono hb1Y.size
    replace hB0 := hB0.trans (hb1Y.mono (by omega))
    have hzX : w3.heap.size + 1 < Y.heap.size := (Array.getElem?_eq_some_iff.1 a2).1
    clear hX hbX hb13 hb1Y
    obtain ⟨g2, hg2⟩ : ∃ g, w3.heap.size + 1 = g := ⟨_, rfl⟩
    obtain ⟨g1', hg1'⟩ : ∃ g, w3.heap.size = g := ⟨_, rfl⟩
    rw [hg2] at a2 hzX ⊢
    rw [hg1'] at a1 ⊢
    have hzg : g1' < Y.heap.size := by omega
    have hzw : w.heap.size < Y.heap.size := by omega
    clear hg2 hg1'
    have s4 := sl4 h4l a2
    have s44 : Sl Y Y.heap.size 1 (some ⟨g1', 0, none⟩) 4 (bvs F) := by
      refine ⟨by rw [bvs_len, h4l], fun _ => ⟨_, 0, rfl, hzg, ?_⟩⟩
      have : bvs F = ((bvs LA).drop 0).take 4 := by rw [hF4.out]; simp [bvs, List.map_take]
      rw [this]
      exact range_cut (cells_range a1) 0 4
    have sa := dg_same hlA
    have wk : IntKind.i64.wrap (k.toNat : Int) = (k.toNat : Int) := wrap_small _ (by omega) (by omega)
    have wk2 : IntKind.i64.wrap ((k.toNat : Int) + 256) = (k.toNat : Int) + 256 := wrap_small _ (by omega) (by omega)
    let S : World → Prop := fun w' => w'.heap[g1']? = some (.cells (bvs LA).toArray 24)
    have hSS : ∀ w', Below Y.heap.size Y w' → S w' := fun w' hb => bBlk hb hzg a1
    have hS1 : S Y.drew := hSS _ ((Below.refl _ _).drew)
    clear hzZ hyZ
    refine wp_region_held (S := S) (by kernel_rfl) ?_
    change wpAnyH _ _ _ _ S _ _ _ Y.drew
    refine wpAnyH_take (i := 0) (oi := ?oi_7) (v := ?v_7) ?ho_7 ?h1_7 ?h2_7 ?h3_7 ?hq_7 (Or.inl ⟨?hw_7, ?hy_7⟩) ?hs_7 ?rest_7; (case h2_7 => kernel_rfl); (case h3_7 => kernel_rfl); (case ho_7 => (simp only [List.getElem?_toArray, List.getElem?_cons_zero, List.getElem?_cons_succ]; rfl)); (case h1_7 => kernel_rfl); (case hq_7 => exact fun _ _ _ h => h); (case hw_7 => rfl); (case hy_7 => (intro w' hSw; (try simp only [S] at hSw); go_simp; (try with_reducible rfl))); (case hs_7 => assumption); (try simp only [Act.put, List.setIfInBounds_toArray, List.set_cons_zero, List.set_cons_succ])
    refine wpAnyH_take (i := 1) (oi := ?oi_8) (v := ?v_8) ?ho_8 ?h1_8 ?h2_8 ?h3_8 ?hq_8 (Or.inl ⟨?hw_8, ?hy_8⟩) ?hs_8 ?rest_8; (case h2_8 => kernel_rfl); (case h3_8 => kernel_rfl); (case ho_8 => (simp only [List.getElem?_toArray, List.getElem?_cons_zero, List.getElem?_cons_succ]; rfl)); (case h1_8 => kernel_rfl); (case hq_8 => exact fun _ _ _ h => h); (case hw_8 => rfl); (case hy_8 => (intro w' hSw; (try simp only [S] at hSw); go_simp; (try with_reducible rfl))); (case hs_8 => assumption); (try simp only [Act.put, List.setIfInBounds_toArray, List.set_cons_zero, List.set_cons_succ])
    refine wpAnyH_take (i := 2) (oi := ?oi_9) (v := ?v_9) ?ho_9 ?h1_9 ?h2_9 ?h3_9 ?hq_9 (Or.inl ⟨?hw_9, ?hy_9⟩) ?hs_9 ?rest_9; (case h2_9 => kernel_rfl); (case h3_9 => kernel_rfl); (case ho_9 => (simp only [List.getElem?_toArray, List.getElem?_cons_zero, List.getElem?_cons_succ]; rfl)); (case h1_9 => kernel_rfl); (case hq_9 => exact fun _ _ _ h => h); (case hw_9 => rfl); (case hy_9 => (intro w' hSw; (try simp only [S] at hSw); go_simp; (try with_reducible rfl))); (case hs_9 => assumption); (try simp only [Act.put, List.setIfInBounds_toArray, List.set_cons_zero, List.set_cons_succ])
    refine wpAnyH_take (i := 4) (oi := ?oi_29) (v := ?v_29) ?ho_29 ?h1_29 ?h2_29 ?h3_29 ?hq_29 (Or.inl ⟨?hw_29, ?hy_29⟩) ?hs_29 ?rest_29; (case h2_29 => kernel_rfl); (case h3_29 => kernel_rfl); (case ho_29 => (simp only [List.getElem?_toArray, List.getElem?_cons_zero, List.getElem?_cons_succ]; rfl)); (case h1_29 => kernel_rfl); (case hq_29 => exact fun _ _ _ h => h); (case hw_29 => rfl); (case hy_29 => (intro w' hSw; refine exec_load_row (x := .tmp 10) ?_ ?_ (cells_range hSw) Try.underlying24 ?_ (by rw [bvs_len, hlA]; exact d32_size) <;> rfl)); (case hs_29 => assumption); (try simp only [Act.put, List.setIfInBounds_toArray, List.set_cons_zero, List.set_cons_succ])
    refine wpAnyH_ready (rs := [3]) (by kernel_rfl) (by simp) (AllReadyH.cons (o := ?oo3_33) ?hoo3_33 (fun K hK => ?steponly33) AllReadyH.nil); (case hoo3_33 => (simp only [List.getElem?_toArray, List.getElem?_cons_zero, List.getElem?_cons_succ]; rfl))
    go_simp
    refine Calls.mono (hof _ _ _ _ (Nat.le_refl _) hs0.drew) ?_
    rintro e Z ⟨rfl, hbZ⟩
    have hBZ : Below Y.heap.size Y Z := ((Below.refl _ Y).drew).trans hbZ
    clear hbZ
    refine hK.out _ _ (hSS _ hBZ) (fun _ => ?_)
    clear hK K
    (try simp only [Act.put, List.setIfInBounds_toArray, List.set_cons_zero, List.set_cons_succ])
    refine wpAnyH_take (i := 5) (oi := ?oi_10) (v := ?v_10) ?ho_10 ?h1_10 ?h2_10 ?h3_10 ?hq_10 (Or.inl ⟨?hw_10, ?hy_10⟩) ?hs_10 ?rest_10; (case h2_10 => kernel_rfl); (case h3_10 => kernel_rfl); (case ho_10 => (simp only [List.getElem?_toArray, List.getElem?_cons_zero, List.getElem?_cons_succ]; rfl)); (case h1_10 => kernel_rfl); (case hq_10 => exact fun _ _ _ h => h); (case hw_10 => rfl); (case hy_10 => (intro w' hSw; (try simp only [S] at hSw); go_simp; (try with_reducible rfl))); (case hs_10 => assumption); (try simp only [Act.put, List.setIfInBounds_toArray, List.set_cons_zero, List.set_cons_succ])
    refine wpAnyH_take (i := 6) (oi := ?oi_11) (v := ?v_11) ?ho_11 ?h1_11 ?h2_11 ?h3_11 ?hq_11 (Or.inl ⟨?hw_11, ?hy_11⟩) ?hs_11 ?rest_11; (case h2_11 => kernel_rfl); (case h3_11 => kernel_rfl); (case ho_11 => (simp only [List.getElem?_toArray, List.getElem?_cons_zero, List.getElem?_cons_succ]; rfl)); (case h1_11 => kernel_rfl); (case hq_11 => exact fun _ _ _ h => h); (case hw_11 => rfl); (case hy_11 => (intro w' hSw; (try simp only [S] at hSw); go_simp; (try with_reducible rfl))); (case hs_11 => assumption); (try simp only [Act.put, List.setIfInBounds_toArray, List.set_cons_zero, List.set_cons_succ])
    refine wpAnyH_take (i := 7) (oi := ?oi_12) (v := ?v_12) ?ho_12 ?h1_12 ?h2_12 ?h3_12 ?hq_12 (Or.inl ⟨?hw_12, ?hy_12⟩) ?hs_12 ?rest_12; (case h2_12 => kernel_rfl); (case h3_12 => kernel_rfl); (case ho_12 => (simp only [List.getElem?_toArray, List.getElem?_cons_zero, List.getElem?_cons_succ]; rfl)); (case h1_12 => kernel_rfl); (case hq_12 => exact fun _ _ _ h => h); (case hw_12 => rfl); (case hy_12 => (intro w' hSw; (try simp only [S] at hSw); go_simp; (try with_reducible rfl))); (case hs_12 => assumption); (try simp only [Act.put, List.setIfInBounds_toArray, List.set_cons_zero, List.set_cons_succ])
    refine wpAnyH_take (i := 8) (oi := ?oi_13) (v := ?v_13) ?ho_13 ?h1_13 ?h2_13 ?h3_13 ?hq_13 (Or.inl ⟨?hw_13, ?hy_13⟩) ?hs_13 ?rest_13; (case h2_13 => kernel_rfl); (case h3_13 => kernel_rfl); (case ho_13 => (simp only [List.getElem?_toArray, List.getElem?_cons_zero, List.getElem?_cons_succ]; rfl)); (case h1_13 => kernel_rfl); (case hq_13 => exact fun _ _ _ h => h); (case hw_13 => rfl); (case hy_13 => (intro w' hSw; (try simp only [S] at hSw); go_simp; (try with_reducible rfl))); (case hs_13 => assumption); (try simp only [Act.put, List.setIfInBounds_toArray, List.set_cons_zero, List.set_cons_succ])
    refine wpAnyH_take (i := 9) (oi := ?oi_14) (v := ?v_14) ?ho_14 ?h1_14 ?h2_14 ?h3_14 ?hq_14 (Or.inl ⟨?hw_14, ?hy_14⟩) ?hs_14 ?rest_14; (case h2_14 => kernel_rfl); (case h3_14 => kernel_rfl); (case ho_14 => (simp only [List.getElem?_toArray, List.getElem?_cons_zero, List.getElem?_cons_succ]; rfl)); (case h1_14 => kernel_rfl); (case hq_14 => exact fun _ _ _ h => h); (case hw_14 => rfl); (case hy_14 => (intro w' hSw; (try simp only [S] at hSw); go_simp; (try with_reducible rfl))); (case hs_14 => assumption); (try simp only [Act.put, List.setIfInBounds_toArray, List.set_cons_zero, List.set_cons_succ])
    refine wpAnyH_take (i := 10) (oi := ?oi_15) (v := ?v_15) ?ho_15 ?h1_15 ?h2_15 ?h3_15 ?hq_15 (Or.inl ⟨?hw_15, ?hy_15⟩) ?hs_15 ?rest_15; (case h2_15 => kernel_rfl); (case h3_15 => kernel_rfl); (case ho_15 => (simp only [List.getElem?_toArray, List.getElem?_cons_zero, List.getElem?_cons_succ]; rfl)); (case h1_15 => kernel_rfl); (case hq_15 => exact fun _ _ _ h => h); (case hw_15 => rfl); (case hy_15 => (intro w' hSw; (try simp only [S] at hSw); go_simp; (try with_reducible rfl))); (case hs_15 => assumption); (try simp only [Act.put, List.setIfInBounds_toArray, List.set_cons_zero, List.set_cons_succ])
    refine wpAnyH_take (i := 12) (oi := ?oi_30) (v := ?v_30) ?ho_30 ?h1_30 ?h2_30 ?h3_30 ?hq_30 (Or.inl ⟨?hw_30, ?hy_30⟩) ?hs_30 ?rest_30; (case h2_30 => kernel_rfl); (case h3_30 => kernel_rfl); (case ho_30 => (simp only [List.getElem?_toArray, List.getElem?_cons_zero, List.getElem?_cons_succ]; rfl)); (case h1_30 => kernel_rfl); (case hq_30 => exact fun _ _ _ h => h); (case hw_30 => rfl); (case hy_30 => (intro w' hSw; refine exec_load_row (x := .tmp 10) ?_ ?_ (cells_range hSw) Try.underlying24 ?_ (by rw [bvs_len, hlA]; exact d32_size) <;> rfl)); (case hs_30 => assumption); (try simp only [Act.put, List.setIfInBounds_toArray, List.set_cons_zero, List.set_cons_succ])
    refine wpAnyH_ready (rs := [11]) (by kernel_rfl) (by simp) (AllReadyH.cons (o := ?oo11_34) ?hoo11_34 (fun K hK => ?steponly34) AllReadyH.nil); (case hoo11_34 => (simp only [List.getElem?_toArray, List.getElem?_cons_zero, List.getElem?_cons_succ]; rfl))
    go_simp
    refine Calls.mono (hof2 _ _ _ _ hBZ.size (hs0.below hBZ)) ?_
    rintro e Z2 ⟨rfl, hbZ⟩
    replace hBZ := hBZ.trans (hbZ.mono hBZ.size)
    clear hbZ
    refine hK.out _ _ (hSS _ hBZ) (fun _ => ?_)
    clear hK K
    (try simp only [Act.put, List.setIfInBounds_toArray, List.set_cons_zero, List.set_cons_succ])
    refine wpAnyH_take (i := 13) (oi := ?oi_16) (v := ?v_16) ?ho_16 ?h1_16 ?h2_16 ?h3_16 ?hq_16 (Or.inl ⟨?hw_16, ?hy_16⟩) ?hs_16 ?rest_16; (case h2_16 => kernel_rfl); (case h3_16 => kernel_rfl); (case ho_16 => (simp only [List.getElem?_toArray, List.getElem?_cons_zero, List.getElem?_cons_succ]; rfl)); (case h1_16 => kernel_rfl); (case hq_16 => exact fun _ _ _ h => h); (case hw_16 => rfl); (case hy_16 => (intro w' hSw; (try simp only [S] at hSw); go_simp; (try with_reducible rfl))); (case hs_16 => assumption); (try simp only [Act.put, List.setIfInBounds_toArray, List.set_cons_zero, List.set_cons_succ])
    refine wpAnyH_take (i := 14) (oi := ?oi_17) (v := ?v_17) ?ho_17 ?h1_17 ?h2_17 ?h3_17 ?hq_17 (Or.inl ⟨?hw_17, ?hy_17⟩) ?hs_17 ?rest_17; (case h2_17 => kernel_rfl); (case h3_17 => kernel_rfl); (case ho_17 => (simp only [List.getElem?_toArray, List.getElem?_cons_zero, List.getElem?_cons_succ]; rfl)); (case h1_17 => kernel_rfl); (case hq_17 => exact fun _ _ _ h => h); (case hw_17 => rfl); (case hy_17 => (intro w' hSw; (try simp only [S] at hSw); go_simp; (try with_reducible rfl))); (case hs_17 => assumption); (try simp only [Act.put, List.setIfInBounds_toArray, List.set_cons_zero, List.set_cons_succ])
    refine wpAnyH_take (i := 15) (oi := ?oi_18) (v := ?v_18) ?ho_18 ?h1_18 ?h2_18 ?h3_18 ?hq_18 (Or.inl ⟨?hw_18, ?hy_18⟩) ?hs_18 ?rest_18; (case h2_18 => kernel_rfl); (case h3_18 => kernel_rfl); (case ho_18 => (simp only [List.getElem?_toArray, List.getElem?_cons_zero, List.getElem?_cons_succ]; rfl)); (case h1_18 => kernel_rfl); (case hq_18 => exact fun _ _ _ h => h); (case hw_18 => rfl); (case hy_18 => (intro w' hSw; (try simp only [S] at hSw); go_simp; (try with_reducible rfl))); (case hs_18 => assumption); (try simp only [Act.put, List.setIfInBounds_toArray, List.set_cons_zero, List.set_cons_succ])
    refine wpAnyH_take (i := 16) (oi := ?oi_19) (v := ?v_19) ?ho_19 ?h1_19 ?h2_19 ?h3_19 ?hq_19 (Or.inl ⟨?hw_19, ?hy_19⟩) ?hs_19 ?rest_19; (case h2_19 => kernel_rfl); (case h3_19 => kernel_rfl); (case ho_19 => (simp only [List.getElem?_toArray, List.getElem?_cons_zero, List.getElem?_cons_succ]; rfl)); (case h1_19 => kernel_rfl); (case hq_19 => exact fun _ _ _ h => h); (case hw_19 => rfl); (case hy_19 => (intro w' hSw; (try simp only [S] at hSw); go_simp; (try with_reducible rfl))); (case hs_19 => assumption); (try simp only [Act.put, List.setIfInBounds_toArray, List.set_cons_zero, List.set_cons_succ])
    refine wpAnyH_take (i := 17) (oi := ?oi_20) (v := ?v_20) ?ho_20 ?h1_20 ?h2_20 ?h3_20 ?hq_20 (Or.inl ⟨?hw_20, ?hy_20⟩) ?hs_20 ?rest_20; (case h2_20 => kernel_rfl); (case h3_20 => kernel_rfl); (case ho_20 => (simp only [List.getElem?_toArray, List.getElem?_cons_zero, List.getElem?_cons_succ]; rfl)); (case h1_20 => kernel_rfl); (case hq_20 => exact fun _ _ _ h => h); (case hw_20 => rfl); (case hy_20 => (intro w' hSw; (try simp only [S] at hSw); go_simp; (try with_reducible rfl))); (case hs_20 => assumption); (try simp only [Act.put, List.setIfInBounds_toArray, List.set_cons_zero, List.set_cons_succ])
    refine wpAnyH_ready (rs := [18]) (by kernel_rfl) (by simp) (AllReadyH.cons (o := ?oo18_35) ?hoo18_35 (fun K hK => ?steponly35) AllReadyH.nil); (case hoo18_35 => (simp only [List.getElem?_toArray, List.getElem?_cons_zero, List.getElem?_cons_succ]; rfl))
    go_simp
    refine Calls.mono (bytes_any _ _ _ _ _ _ _ _ F F _ (s4.below hBZ) (s44.below hBZ)) ?_
    rintro e _ ⟨rfl, rfl⟩
    refine hK.out _ _ (hSS _ hBZ) (fun _ => ?_)
    clear hK K
    rw [decide_eq_true (rfl : F = F)]
    (try simp only [Act.put, List.setIfInBounds_toArray, List.set_cons_zero, List.set_cons_succ])
    refine wpAnyH_take (i := 19) (oi := ?oi_21) (v := ?v_21) ?ho_21 ?h1_21 ?h2_21 ?h3_21 ?hq_21 (Or.inl ⟨?hw_21, ?hy_21⟩) ?hs_21 ?rest_21; (case h2_21 => kernel_rfl); (case h3_21 => kernel_rfl); (case ho_21 => (simp only [List.getElem?_toArray, List.getElem?_cons_zero, List.getElem?_cons_succ]; rfl)); (case h1_21 => kernel_rfl); (case hq_21 => exact fun _ _ _ h => h); (case hw_21 => rfl); (case hy_21 => (intro w' hSw; (try simp only [S] at hSw); go_simp; (try with_reducible rfl))); (case hs_21 => assumption); (try simp only [Act.put, List.setIfInBounds_toArray, List.set_cons_zero, List.set_cons_succ])
    refine wpAnyH_take (i := 20) (oi := ?oi_22) (v := ?v_22) ?ho_22 ?h1_22 ?h2_22 ?h3_22 ?hq_22 (Or.inl ⟨?hw_22, ?hy_22⟩) ?hs_22 ?rest_22; (case h2_22 => kernel_rfl); (case h3_22 => kernel_rfl); (case ho_22 => (simp only [List.getElem?_toArray, List.getElem?_cons_zero, List.getElem?_cons_succ]; rfl)); (case h1_22 => kernel_rfl); (case hq_22 => exact fun _ _ _ h => h); (case hw_22 => rfl); (case hy_22 => (intro w' hSw; (try simp only [S] at hSw); go_simp; (try with_reducible rfl))); (case hs_22 => assumption); (try simp only [Act.put, List.setIfInBounds_toArray, List.set_cons_zero, List.set_cons_succ])
    refine wpAnyH_ready (rs := [21]) (by kernel_rfl) (by simp) (AllReadyH.cons (o := ?oo21_36) ?hoo21_36 (fun K hK => ?steponly36) AllReadyH.nil); (case hoo21_36 => (simp only [List.getElem?_toArray, List.getElem?_cons_zero, List.getElem?_cons_succ]; rfl))
    go_simp
    refine Calls.mono (hwk _) ?_
    rintro e Z3 ⟨rfl, hbZ⟩
    replace hBZ := hBZ.trans (hbZ.mono hBZ.size)
    clear hbZ
    refine hK.out _ _ (hSS _ hBZ) (fun _ => ?_)
    clear hK K
    (try simp only [Act.put, List.setIfInBounds_toArray, List.set_cons_zero, List.set_cons_succ])
    refine wpAnyH_take (i := 22) (oi := ?oi_23) (v := ?v_23) ?ho_23 ?h1_23 ?h2_23 ?h3_23 ?hq_23 (Or.inl ⟨?hw_23, ?hy_23⟩) ?hs_23 ?rest_23; (case h2_23 => kernel_rfl); (case h3_23 => kernel_rfl); (case ho_23 => (simp only [List.getElem?_toArray, List.getElem?_cons_zero, List.getElem?_cons_succ]; rfl)); (case h1_23 => kernel_rfl); (case hq_23 => exact fun _ _ _ h => h); (case hw_23 => rfl); (case hy_23 => (intro w' hSw; (try simp only [S] at hSw); go_simp; (try with_reducible rfl))); (case hs_23 => assumption); (try simp only [Act.put, List.setIfInBounds_toArray, List.set_cons_zero, List.set_cons_succ])
    refine wpAnyH_take (i := 23) (oi := ?oi_24) (v := ?v_24) ?ho_24 ?h1_24 ?h2_24 ?h3_24 ?hq_24 (Or.inl ⟨?hw_24, ?hy_24⟩) ?hs_24 ?rest_24; (case h2_24 => kernel_rfl); (case h3_24 => kernel_rfl); (case ho_24 => (simp only [List.getElem?_toArray, List.getElem?_cons_zero, List.getElem?_cons_succ]; rfl)); (case h1_24 => kernel_rfl); (case hq_24 => exact fun _ _ _ h => h); (case hw_24 => rfl); (case hy_24 => (intro w' hSw; (try simp only [S] at hSw); go_simp; (try with_reducible rfl))); (case hs_24 => assumption); (try simp only [Act.put, List.setIfInBounds_toArray, List.set_cons_zero, List.set_cons_succ])
    refine wpAnyH_done (by kernel_rfl) ?_ _
    go_wp2
    go_ret
    exact Ret.mk rfl (hB0.trans (hBZ.mono (Nat.le_of_lt hzw)))
set_option maxRecDepth 100000 in
theorem shaOrder_walk {H : Type} {enc : TypeId × Value → H} {W : World} {base : Nat} {v0 v1 v2 : Value} {d0 d1 d2 : DataW H} {p0 p1 p2 : List MemPlace}
    (k0 : Value.okWide Try.prog W .any base 35 v0) (h0 : DataW.Trod enc Try.prog W 0 (fun _ => true) true 35 v0 d0 p0)
    (k1 : Value.okWide Try.prog W .any base 5 v1) (h1 : DataW.Trod enc Try.prog W 0 (fun _ => true) true 5 v1 d1 p1)
    (k2 : Value.okWide Try.prog W .any base 22 v2) (h2 : DataW.Trod enc Try.prog W 0 (fun _ => true) true 22 v2 d2 p2)
    : Calls Try.prog 4 #[v0, v1, v2] W fun e W' => e = .returned (.bool true) ∧ Below W.heap.size W W' := by
  obtain ⟨ds, hl, rfl, hw⟩ := open_arr (encA := bvs) (ok := fun a => a.length = 32) Try.underlying35 (sz := 32) (by kernel_rfl) (by kernel_rfl) dec_dg k0 h0
  obtain ⟨a, b, c', rfl⟩ := three_list hl
  obtain ⟨kd, rfl, -, -, wkd⟩ := open_int Try.underlying5 k1 h1
  obtain ⟨A, n, c, l, rfl, rfl, hn, hc, -, hsl⟩ := open_bytes_sl Try.underlying22 Try.underlying5 (by kernel_rfl) k2 h2
  have := shaOrder_core (UInt8.ofNat kd.toNat) (l := l) (A := A) (c := c) (hw a (by simp)) (hw b (by simp)) (hw c' (by simp)) W hsl (by omega)
  rw [← u8_of wkd] at this
  rw [show [a, b, c'].flatMap bvs = bvs a ++ (bvs b ++ bvs c') from by simp]
  exact this
end Go.Proofs.Ytacchnmoohlcpaa
