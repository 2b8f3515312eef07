/- codexkeep.Way; the walk over the reference's Best. -/
import Derived.Test.YtnojikbecohhfaaBkRBest
import Derived.Test.YtnojikbecohhfaaBkKeepI
namespace Go.Proofs.Ytnojikbecohhfaa
set_option linter.unusedSimpArgs false
set_option linter.unusedVariables false
open Go.RowKit Go.Sort

set_option maxRecDepth 100000 in
theorem way_same {A A' : Option Addr} {n m c c' : Nat} {E : List Int} {t o : Int} (w : World) (ha : IvAt w w.heap.size A n c E) (hb : IvAt w w.heap.size A' m c' E) (hn : n ≤ 1000000) (hki : ∀ (w : World), IvAt w w.heap.size A n c E → IvAt w w.heap.size A' m c' E → Calls Try.prog 17 #[.slice A n c, .slice A' m c'] w (Ret w (.bool true))) :
    Calls Try.prog 13 #[wyv A n c t o, wyv A' m c' t o] w (Ret w (.bool true)) := by
  unfold wyv
  have hk := fun W (h : Below w.heap.size w W) => hki W (ha.nxt h) (hb.nxt h)
  clear ha hb hki
  go_enter Try.func13, Try.ntmps13
  go_upto_region 1 with (fail)
  obtain ⟨V, hV⟩ : ∃ q, (w.alloc (.cells #[.slice A n c, .int .i64 t, .int .i64 o] 37)).alloc (.cells #[.slice A' m c', .int .i64 t, .int .i64 o] 37) = q := ⟨_, rfl⟩
  have hB : Below w.heap.size w V := by rw [← hV]; exact ((Below.refl _ _).alloc (Nat.le_refl _) _).alloc (by simp) _
  have v2 : V.heap[w.heap.size]? = some (.cells #[.slice A n c, .int .i64 t, .int .i64 o] 37) := by rw [← hV]; exact (alloc_two _ _ _).1
  have v3 : V.heap[w.heap.size + 1]? = some (.cells #[.slice A' m c', .int .i64 t, .int .i64 o] 37) := by rw [← hV]; exact (alloc_two _ _ _).2
  rw [hV]
  clear hV
  have k20 : V.cell? ⟨w.heap.size, 0, none⟩ = some (.slice A n c) := blk_cell v2 rfl
  have k21 : V.cell? ⟨w.heap.size, 1, none⟩ = some (.int .i64 t) := blk_cell v2 rfl
  have k22 : V.cell? ⟨w.heap.size, 2, none⟩ = some (.int .i64 o) := blk_cell v2 rfl
  have k30 : V.cell? ⟨w.heap.size + 1, 0, none⟩ = some (.slice A' m c') := blk_cell v3 rfl
  have k31 : V.cell? ⟨w.heap.size + 1, 1, none⟩ = some (.int .i64 t) := blk_cell v3 rfl
  have k32 : V.cell? ⟨w.heap.size + 1, 2, none⟩ = some (.int .i64 o) := blk_cell v3 rfl
  have hc := hk V hB
  have HB := Lib.hid hB
  clear hk hB v2 v3
  go_wp2_with fail
  refine Calls.mono hc ?_
  rintro e w' ⟨rfl, hb⟩
  have HB2 := Lib.hid (bNext HB.out hb)
  clear hc hb
  go_wp2_with fail
  go_ret
  exact Ret.mk (vbool (by simp)) HB2.out
theorem built_wyz : Try.prog.built 37 [] = some wyz := by kernel_rfl
theorem best_of_none {l : List It} {wd tl : Int} (hn : l.length ≤ 600) : bestP l wd tl = match srch l wd tl false with
    | some w => w
    | none => (srch l wd tl true).getD wy0 := by
  unfold bestP
  by_cases hb : bx l (-1) l.length = false
  · rw [if_pos (.inr hb)]
    have hno : ∀ all y, ¬ PathTo l wd tl all (brks l).length y := fun all y hp => by
      obtain ⟨_, h1, h2, -, h4⟩ := path_walk hp
      have hne := h4 (brks_pos l)
      have h5 : ∀ (es : List Int) (f : Int) (y x : WY) (m mb : Bool), es ≠ [] → f < l.length → fst l f = fst l (-1) → stepW l wd tl f y m es = some (x, mb) → False := by
        intro es f y x m mb hne hf hff hs
        cases es with
        | nil => exact hne rfl
        | cons t ts =>
          rw [stepW] at hs
          split at hs
          · rename_i hc
            have h6 := hc.2.2
            have h7 := (plcs_rng hc.2.1).2
            unfold bx at h6 hb
            rw [hff] at h6
            have h8 := of_decide_eq_true h6
            have h9 := of_decide_eq_false hb
            omega
          · cases hs
      exact h5 _ _ _ _ _ _ hne (by omega) rfl h1
    have h1 : srch l wd tl false = none := by
      cases hs : srch l wd tl false with
      | none => rfl
      | some y => exact absurd (srch_path hs) (hno _ _)
    have h2 : srch l wd tl true = none := by
      cases hs : srch l wd tl true with
      | none => rfl
      | some y => exact absurd (srch_path hs) (hno _ _)
    rw [h1, h2]
    rfl
  · rw [if_neg (by rintro (h | h); omega; exact hb h)]
    cases srch l wd tl false <;> rfl
set_option maxHeartbeats 16000000 in
set_option maxRecDepth 100000 in
theorem rBest_any {A : Option Addr} {n c : Nat} {l : List It} (sw sh st sc si : Int) (hn : n ≤ 1000000) (w : World) (h : Sl w w.heap.size 6 A n (encs l)) :
    Calls Try.prog 15 #[.slice A n c, .agg #[.int .i64 sw, .int .i64 sh, .int .i64 st, .int .i64 sc, .int .i64 si]] w fun e w' => ∃ A' m' c', e = .returned (wyv A' m' c' (bestP l (cutS sw) (cutS st)).total (bestP l (cutS sw) (cutS st)).over) ∧ IvAt w' w'.heap.size A' m' c' (bestP l (cutS sw) (cutS st)).ends ∧ Below w.heap.size w w' := by
  have hl := its_len h
  have hbs := best_of_none (l := l) (wd := cutS sw) (tl := cutS st)
  have hsr := fun (all : Bool) (h6 : n ≤ 600) (U : World) (hb : Below w.heap.size w U) => rbest_any (c := c) sw sh st sc si all h6 U (h.next hb)
  obtain ⟨BP, hBP⟩ : ∃ q, bestP l (cutS sw) (cutS st) = q := ⟨_, rfl⟩
  obtain ⟨S1, hS1⟩ : ∃ q, srch l (cutS sw) (cutS st) false = q := ⟨_, rfl⟩
  obtain ⟨S2, hS2⟩ : ∃ q, srch l (cutS sw) (cutS st) true = q := ⟨_, rfl⟩
  have hbig : 600 < l.length → BP = wy0 := fun h => by rw [← hBP]; unfold bestP; rw [if_pos (.inl h)]
  rw [hBP, hS1, hS2, hl] at hbs
  rw [hBP]
  have hsrF := fun h6 U hb => hsr false h6 U hb
  have hsrT := fun h6 U hb => hsr true h6 U hb
  simp only [hS1, Bool.not_false] at hsrF
  simp only [hS2, Bool.not_true] at hsrT
  unfold RBP wyv at hsrF hsrT
  have HS := Lib.hid (And.intro hbs (And.intro hbig hl))
  clear hbs hbig hl hsr hS1 hS2 hBP h
  have hwz := wyZ
  have hz3 : wyz.size = 3 := rfl
  have hzi : (Try.prog.info? 37).map (·.size) = some wyz.size := wy_size
  have hzo : wyz.all (·.oneCell') = true := by simp [wyz, Value.oneCell']
  have hbz := built_wyz
  obtain ⟨zw, hzw⟩ : ∃ q, wyz = q := ⟨_, rfl⟩
  rw [hzw] at hwz hz3 hzi hzo hbz
  have HZW := Lib.hid hzw
  clear hzw
  obtain ⟨W1, hW1⟩ : ∃ q, w.alloc (.cells #[.int .i64 sw, .int .i64 sh, .int .i64 st, .int .i64 sc, .int .i64 si] 24) = q := ⟨_, rfl⟩
  have y3a : W1.heap[w.heap.size]? = some (.cells #[.int .i64 sw, .int .i64 sh, .int .i64 st, .int .i64 sc, .int .i64 si] 24) := by rw [← hW1]; exact heap_alloc_new _ _
  have hb1 : Below w.heap.size w W1 := by rw [← hW1]; exact (Below.refl _ _).alloc (Nat.le_refl _) _
  have hz1 : W1.heap.size = w.heap.size + 1 := by rw [← hW1]; simp
  obtain ⟨X, hX⟩ : ∃ q, W1.alloc (.cells zw 37) = q := ⟨_, rfl⟩
  have y4 : X.heap[W1.heap.size]? = some (.cells zw 37) := by rw [← hX]; exact heap_alloc_new _ _
  have hb2 : Below W1.heap.size W1 X := by rw [← hX]; exact (Below.refl _ _).alloc (Nat.le_refl _) _
  have y3 := bBlk hb2 (Array.getElem?_eq_some_iff.1 y3a).1 y3a
  have hBX := bNext hb1 hb2
  obtain ⟨b4, hb4⟩ : ∃ q, W1.heap.size = q := ⟨_, rfl⟩
  obtain ⟨b3, hb3⟩ : ∃ q, w.heap.size = q := ⟨_, rfl⟩
  have hb34 : w.heap.size ≤ b4 ∧ b3 < b4 := by omega
  rw [hb4] at y4
  rw [hb3] at y3
  have l3 := (Array.getElem?_eq_some_iff.1 y3).1
  have l4 := (Array.getElem?_eq_some_iff.1 y4).1
  have HX := Lib.hid (And.intro hBX (And.intro y3 y4))
  have hsi : (Try.prog.info? 24).map (·.size) = some (#[.int .i64 sw, .int .i64 sh, .int .i64 st, .int .i64 sc, .int .i64 si] : Array Value).size := by show _ = some 5; kernel_rfl
  clear hb1 hb2 y3a hBX hz1
  go_enter Try.func15, Try.ntmps15
  go_upto_region 1 with (first | (refine wpList_new rfl hwz rfl ?_) | fail)
  try rw [hW1]
  try rw [hX]
  try rw [hb4]
  try rw [hb3]
  clear hW1 hX hb4
  by_cases h6 : 600 < n
  · have h6' : (600 : Int) < (n : Int) := by omega
    have hB0 := HS.out.2.1 (by rw [HS.out.2.2]; exact h6)
    clear hsrF hsrT
    have HB0 := Lib.hid hB0
    clear hB0
    go_upto_region 2 with (fail)
    refine wp_region_lit ?_
    refine wpList_built rfl 37 #[] rfl (cs := zw) (by simp only [List.map_toArray, List.map_nil]; exact hbz) ?_
    (try simp only [Act.put, List.setIfInBounds_toArray, List.set_cons_zero, List.set_cons_succ])
    refine wpList_store_row rfl 37 (.tmp 4) (.tmp 12) rfl _ zw rfl rfl _ zw y4 hzi rfl hzo ?_
    (try simp only [Act.put, List.setIfInBounds_toArray, List.set_cons_zero, List.set_cons_succ])
    go_wp2_with fail
    generalize hX9 : World.setRow _ _ _ = X9
    have b9 : X9.heap[b4]? = some (.cells zw 37) := by rw [← hX9]; exact setRow_heap _ _ _ _ _ _ y4
    have hB9 : Below w.heap.size w X9 := by rw [← hX9]; exact bSetRow HX.out.1 hb34.1 _
    clear hX9
    refine bodyPost_ret (results_cell_row Try.results15 _ X9 b4 37 zw (0, 0) _ ?_ b9 Try.underlying37 rfl hzi) rfl ?_
    · rfl
    exact ⟨none, 0, 0, by rw [HB0.out, ← HZW.out]; rfl, by rw [HB0.out]; exact ⟨by simp [wy0], rfl, Sl.nil, Nat.le_refl _⟩, by first | exact hB9 | (rw [← hb3]; exact hB9)⟩
  · have h6' : ¬ (600 : Int) < (n : Int) := by omega
    have hs1 := hsrF (by omega) X HX.out.1
    clear hsrF
    go_upto_region 3 with (fail)
    refine wp_region_lit ?_
    iterate 3 (first | go_guarded | go_step)
    (try simp only [Act.put, List.setIfInBounds_toArray, List.set_cons_zero, List.set_cons_succ])
    refine wpList_load_row rfl 24 (.tmp 3) rfl _ rfl _ #[.int .i64 sw, .int .i64 sh, .int .i64 st, .int .i64 sc, .int .i64 si] (0, 0) _ y3 Try.underlying24 rfl hsi ?_
    (try simp only [Act.put, List.setIfInBounds_toArray, List.set_cons_zero, List.set_cons_succ])
    go_wp2_with fail
    refine Calls.mono hs1 ?_
    rintro e V ⟨A5, m5, c5, rfl, hiv5, hfar5, hbV⟩
    clear hs1
    cases S1 with
    | some y =>
      simp only [Option.getD_some, Option.isSome_some] at hiv5 ⊢
      obtain ⟨cw, hcw⟩ : ∃ q : Array Value, #[.slice A5 m5 c5, .int .i64 y.total, .int .i64 y.over] = q := ⟨_, rfl⟩
      rw [hcw]
      have hci : (Try.prog.info? 37).map (·.size) = some cw.size := by rw [← hcw]; exact wy_inf _ _ _ _ _
      have hczw : zw.size = cw.size := by rw [← hcw]; exact wy_zs hz3 _ _ _ _ _
      have hcon : cw.all (·.oneCell') = true := by rw [← hcw]; exact wy_on _ _ _ _ _
      obtain ⟨Y, hY, y5, bY⟩ := newRow V zw cw 37
      have hBE : BP = y := HS.out.1 (by omega)
      have x4 := bBlk (bNext hbV bY) l4 HX.out.2.2
      have hBY := bNext HX.out.1 (bNext hbV bY)
      have hivY := hiv5.nxt bY
      have HY := Lib.hid (And.intro hcw (And.intro hBE (And.intro hBY hivY)))
      clear hcw hBE hBY hivY hiv5 hbV bY
      go_upto_region 4 with (first
        | (refine wpList_new rfl hwz rfl ?_)
        | (refine wpList_store_row rfl 37 (.tmp 5) (.tmp 17) rfl _ cw rfl rfl _ zw (heap_alloc_new _ _) hci hczw hcon ?_)
        | fail)
      try rw [hY]
      clear hY
      go_upto_region 5 with (fail)
      refine wp_region_lit ?_
      refine wpList_load_row rfl 37 (.tmp 5) rfl _ rfl _ cw (0, 0) _ y5 Try.underlying37 rfl hci ?_
      (try simp only [Act.put, List.setIfInBounds_toArray, List.set_cons_zero, List.set_cons_succ])
      refine wpList_store_row rfl 37 (.tmp 4) (.tmp 20) rfl _ cw rfl rfl _ zw x4 hci hczw hcon ?_
      (try simp only [Act.put, List.setIfInBounds_toArray, List.set_cons_zero, List.set_cons_succ])
      go_wp2_with fail
      generalize hX9 : World.setRow _ _ _ = X9
      have b9 : X9.heap[b4]? = some (.cells cw 37) := by rw [← hX9]; exact setRow_heap _ _ _ _ _ _ x4
      have hB9 : Below w.heap.size w X9 := by rw [← hX9]; exact bSetRow HY.out.2.2.1 hb34.1 _
      have hiv9 : IvAt X9 X9.heap.size A5 m5 c5 y.ends := by
        refine IvAt.but6 (g := b4) HY.out.2.2.2 (fun b o i e => ?_) (by rw [← hX9]; exact but_row (But.refl _ _ _) _)
        have := hfar5 b o i e; have := l4; omega
      clear hX9
      refine bodyPost_ret (results_cell_row Try.results15 _ X9 b4 37 cw (0, 0) _ ?_ b9 Try.underlying37 rfl hci) rfl ?_
      · rfl
      exact ⟨A5, m5, c5, by rw [HY.out.2.1, ← HY.out.1]; rfl, by rw [HY.out.2.1]; exact hiv9, by first | exact hB9 | (rw [← hb3]; exact hB9)⟩
    | none =>
      simp only [Option.getD_none, Option.isSome_none] at hiv5 ⊢
      obtain ⟨cw0, hcw0⟩ : ∃ q : Array Value, #[.slice A5 m5 c5, .int .i64 wy0.total, .int .i64 wy0.over] = q := ⟨_, rfl⟩
      rw [hcw0]
      have hci0 : (Try.prog.info? 37).map (·.size) = some cw0.size := by rw [← hcw0]; exact wy_inf _ _ _ _ _
      have hczw0 : zw.size = cw0.size := by rw [← hcw0]; exact wy_zs hz3 _ _ _ _ _
      have hcon0 : cw0.all (·.oneCell') = true := by rw [← hcw0]; exact wy_on _ _ _ _ _
      obtain ⟨Y0, hY0, y50, bY0⟩ := newRow V zw cw0 37
      have hb0 := bNext hbV bY0
      have x40 := bBlk hb0 l4 HX.out.2.2
      have x30 := bBlk hb0 l3 HX.out.2.1
      have hBY0 := bNext HX.out.1 hb0
      have hs2 := hsrT (by omega) Y0 hBY0
      have lx4 := (Array.getElem?_eq_some_iff.1 x40).1
      have HY0 := Lib.hid (And.intro hBY0 x40)
      clear hcw0 hiv5 hbV bY0 hb0 x40 hBY0 hsrT
      go_upto_region 4 with (first
        | (refine wpList_new rfl hwz rfl ?_)
        | (refine wpList_store_row rfl 37 (.tmp 5) (.tmp 17) rfl _ cw0 rfl rfl _ zw (heap_alloc_new _ _) hci0 hczw0 hcon0 ?_)
        | fail)
      try rw [hY0]
      clear hY0 y50 hci0 hczw0 hcon0
      go_upto_region 6 with (fail)
      refine wp_region_lit ?_
      iterate 3 (first | go_guarded | go_step)
      (try simp only [Act.put, List.setIfInBounds_toArray, List.set_cons_zero, List.set_cons_succ])
      refine wpList_load_row rfl 24 (.tmp 3) rfl _ rfl _ #[.int .i64 sw, .int .i64 sh, .int .i64 st, .int .i64 sc, .int .i64 si] (0, 0) _ x30 Try.underlying24 rfl hsi ?_
      (try simp only [Act.put, List.setIfInBounds_toArray, List.set_cons_zero, List.set_cons_succ])
      go_wp2_with fail
      refine Calls.mono hs2 ?_
      rintro e V2 ⟨A5, m5, c5, rfl, hiv5, hfar7, hbV2⟩
      clear hs2
      obtain ⟨y, hy⟩ : ∃ q, S2.getD wy0 = q := ⟨_, rfl⟩
      rw [hy] at hiv5 ⊢
      have hBE0 : BP = y := by rw [← hy]; exact HS.out.1 (by omega)
      obtain ⟨cw, hcw⟩ : ∃ q : Array Value, #[.slice A5 m5 c5, .int .i64 y.total, .int .i64 y.over] = q := ⟨_, rfl⟩
      rw [hcw]
      have hci : (Try.prog.info? 37).map (·.size) = some cw.size := by rw [← hcw]; exact wy_inf _ _ _ _ _
      have hczw : zw.size = cw.size := by rw [← hcw]; exact wy_zs hz3 _ _ _ _ _
      have hcon : cw.all (·.oneCell') = true := by rw [← hcw]; exact wy_on _ _ _ _ _
      obtain ⟨Y, hY, y5, bY⟩ := newRow V2 zw cw 37
      have hBE := hBE0
      have x4 := bBlk (bNext hbV2 bY) lx4 HY0.out.2
      have hBY := bNext HY0.out.1 (bNext hbV2 bY)
      have hivY := hiv5.nxt bY
      have HY := Lib.hid (And.intro hcw (And.intro hBE (And.intro hBY hivY)))
      clear hBE0 hcw hBE hBY hivY hiv5 hbV2 bY
      go_upto_region 7 with (first
        | (refine wpList_new rfl hwz rfl ?_)
        | (refine wpList_store_row rfl 37 (.tmp 7) (.tmp 25) rfl _ cw rfl rfl _ zw (heap_alloc_new _ _) hci hczw hcon ?_)
        | fail)
      try rw [hY]
      clear hY
      go_upto_region 7 with (fail)
      refine wp_region_lit ?_
      refine wpList_load_row rfl 37 (.tmp 7) rfl _ rfl _ cw (0, 0) _ y5 Try.underlying37 rfl hci ?_
      (try simp only [Act.put, List.setIfInBounds_toArray, List.set_cons_zero, List.set_cons_succ])
      refine wpList_store_row rfl 37 (.tmp 4) (.tmp 27) rfl _ cw rfl rfl _ zw x4 hci hczw hcon ?_
      (try simp only [Act.put, List.setIfInBounds_toArray, List.set_cons_zero, List.set_cons_succ])
      go_wp2_with fail
      generalize hX9 : World.setRow _ _ _ = X9
      have b9 : X9.heap[b4]? = some (.cells cw 37) := by rw [← hX9]; exact setRow_heap _ _ _ _ _ _ x4
      have hB9 : Below w.heap.size w X9 := by rw [← hX9]; exact bSetRow HY.out.2.2.1 hb34.1 _
      have hiv9 : IvAt X9 X9.heap.size A5 m5 c5 y.ends := by
        refine IvAt.but6 (g := b4) HY.out.2.2.2 (fun b o i e => ?_) (by rw [← hX9]; exact but_row (But.refl _ _ _) _)
        have := hfar7 b o i e; have := lx4; omega
      clear hX9
      refine bodyPost_ret (results_cell_row Try.results15 _ X9 b4 37 cw (0, 0) _ ?_ b9 Try.underlying37 rfl hci) rfl ?_
      · rfl
      exact ⟨A5, m5, c5, by rw [HY.out.2.1, ← HY.out.1]; rfl, by rw [HY.out.2.1]; exact hiv9, by first | exact hB9 | (rw [← hb3]; exact hB9)⟩
end Go.Proofs.Ytnojikbecohhfaa
