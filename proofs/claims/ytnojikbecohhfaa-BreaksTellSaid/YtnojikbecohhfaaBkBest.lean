/- The walk over breaks.Best. -/
import Derived.Test.YtnojikbecohhfaaBkSrch
namespace Go.Proofs.Ytnojikbecohhfaa
set_option linter.unusedSimpArgs false
set_option linter.unusedVariables false
open Go.RowKit Go.Sort

def BestP (w : World) (y : WY) (e : Ending) (w' : World) : Prop := ∃ A m c, e = .returned (wyv A m c y.total y.over) ∧ IvAt w' w'.heap.size A m c y.ends ∧ (∀ b o i, A = some ⟨b, o, i⟩ → w.heap.size ≤ b) ∧ Below w.heap.size w w'
theorem pgZ : ZeroIs Try.prog 59 #[.slice none 0 0, .int .i64 0, .int .i64 0] := by unfold ZeroIs; kernel_rfl
theorem sty_size : (Try.prog.info? 24).map (·.size) = some 5 := by kernel_rfl
theorem built_wy0 : Try.prog.built 37 [] = some #[.slice none 0 0, .int .i64 0, .int .i64 0] := by kernel_rfl
theorem cutS_bd (v : Int) : 0 ≤ cutS v ∧ cutS v ≤ 10000 := cutZ_bd _ _ _ (by omega)
theorem IvAt.set {w U : World} {b4 : Nat} {A : Option Addr} {m c : Nat} {l : List Int} (h : IvAt w w.heap.size A m c l) (hf : ∀ b o i, A = some ⟨b, o, i⟩ → b4 < b) (cs : Array Value) (hU : w.setRow b4 cs = U) : IvAt U U.heap.size A m c l := by
  obtain ⟨hw, hlen, hsl, hcap⟩ := h
  have hsz : w.heap.size ≤ U.heap.size := by rw [← hU]; exact (bSetRow (Below.refl b4 w) (Nat.le_refl _) _).size
  refine ⟨hw, hlen, ⟨hsl.len, fun h0 => ?_⟩, hcap⟩
  obtain ⟨b, o, e, hlt, hr⟩ := hsl.at_ h0
  refine ⟨b, o, e, by omega, fun j v hj => ?_⟩
  have hne : b ≠ b4 := by have := hf b o none e; omega
  refine Eq.trans (World.cell?_of_block (a := ⟨b, o + j, none⟩) ?_) (hr j v hj)
  rw [← hU]
  exact setRow_other _ _ _ _ hne
attribute [-go_sem] Builtin.append_
set_option maxHeartbeats 16000000 in
set_option maxRecDepth 100000 in
theorem best_any {A : Option Addr} {n c : Nat} {l : List It} (sw sh st sc si : Int) (hn : n ≤ 1000000) (w : World) (h : Sl w w.heap.size 6 A n (encs l)) :
    Calls Try.prog 14 #[.slice A n c, .agg #[.int .i64 sw, .int .i64 sh, .int .i64 st, .int .i64 sc, .int .i64 si]] w (BestP w (bestP l (cutS sw) (cutS st))) := by
  have hl := its_len h
  have hwd := cutS_bd sw
  have hof := fun U => of_any' (A := A) (n := n) (c := c) sw sh st sc si U
  obtain ⟨wd, hwd0⟩ : ∃ q, cutS sw = q := ⟨_, rfl⟩
  obtain ⟨tl, htl0⟩ : ∃ q, cutS st = q := ⟨_, rfl⟩
  simp only [hwd0, htl0] at hwd hof ⊢
  unfold pgv at hof
  obtain ⟨V1, hV1⟩ : ∃ q, w.alloc (.cells #[.int .i64 sw, .int .i64 sh, .int .i64 st, .int .i64 sc, .int .i64 si] 24) = q := ⟨_, rfl⟩
  have y3 : V1.heap[w.heap.size]? = some (.cells #[.int .i64 sw, .int .i64 sh, .int .i64 st, .int .i64 sc, .int .i64 si] 24) := by rw [← hV1]; exact heap_alloc_new _ _
  have hb1 : Below w.heap.size w V1 := by rw [← hV1]; exact (Below.refl _ _).alloc (Nat.le_refl _) _
  obtain ⟨zw, hzw⟩ : ∃ q, wyz = q := ⟨_, rfl⟩
  have hwz := wyZ
  rw [hzw] at hwz
  have hz3 : zw.size = 3 := by rw [← hzw]; rfl
  obtain ⟨V2, hV2⟩ : ∃ q, V1.alloc (.cells zw 37) = q := ⟨_, rfl⟩
  have y4 : V2.heap[V1.heap.size]? = some (.cells zw 37) := by rw [← hV2]; exact heap_alloc_new _ _
  have hb2 : Below V1.heap.size V1 V2 := by rw [← hV2]; exact (Below.refl _ _).alloc (Nat.le_refl _) _
  have hb12 := bNext hb1 hb2
  have y3' := bBlk hb2 (Array.getElem?_eq_some_iff.1 y3).1 y3
  have s1 := hb1.size
  have s2 := hb2.size
  obtain ⟨b4, hb4⟩ : ∃ q, V1.heap.size = q := ⟨_, rfl⟩
  rw [hb4] at y4
  have l4 := (Array.getElem?_eq_some_iff.1 y4).1
  have H2 := Lib.hid (And.intro h (And.intro hb12 (And.intro y4 y3')))
  have hsi : (Try.prog.info? 24).map (·.size) = some (#[Value.int .i64 sw, .int .i64 sh, .int .i64 st, .int .i64 sc, .int .i64 si] : Array Value).size := sty_size
  obtain ⟨R, hR⟩ : ∃ q, bestP l wd tl = q := ⟨_, rfl⟩
  rw [hR]
  unfold bestP at hR
  rw [hl] at hR
  have HR := Lib.hid hR
  have hpz := pgZ
  have hbz := bzZ
  clear h hb1 hb2 hb12 y4 y3 hzw hR hwd0 htl0
  go_enter Try.func14, Try.ntmps14
  go_upto_region 1 with (first | (refine wpList_new rfl hwz rfl ?_) | fail)
  try rw [hV1]
  try rw [hb4]
  try rw [hV2]
  clear hV1 hV2
  refine wp_region_lit ?_
  iterate 3 (first | go_guarded | go_step)
  (try simp only [Act.put, List.setIfInBounds_toArray, List.set_cons_zero, List.set_cons_succ])
  refine wpList_load_row rfl 24 (.tmp 3) rfl _ rfl _ #[.int .i64 sw, .int .i64 sh, .int .i64 st, .int .i64 sc, .int .i64 si] (0, 0) _ y3' Try.underlying24 rfl hsi ?_
  (try simp only [Act.put, List.setIfInBounds_toArray, List.set_cons_zero, List.set_cons_succ])
  clear hsi y3'
  go_wp2_with fail
  refine Calls.mono (hof _) ?_
  rintro e V3 ⟨rfl, hb3⟩
  clear hof
  obtain ⟨Y, hY, y5, bY⟩ := newRow V3 #[.slice none 0 0, .int .i64 0, .int .i64 0] #[.slice A n c, .int .i64 wd, .int .i64 tl] 59
  have pgi : (Try.prog.info? 59).map (·.size) = some (#[Value.slice A n c, .int .i64 wd, .int .i64 tl] : Array Value).size := pgi_size
  go_upto_region 2 with (first
    | (refine wpList_new rfl hpz rfl ?_)
    | (refine wpList_store_row rfl 59 (.tmp 5) (.tmp 9) rfl _ #[.slice A n c, .int .i64 wd, .int .i64 tl] rfl rfl _ #[.slice none 0 0, .int .i64 0, .int .i64 0] (heap_alloc_new _ _) pgi rfl (by simp [Value.oneCell']) ?_)
    | fail)
  try rw [hY]
  clear hY hpz
  obtain ⟨h, hb12, y4, -⟩ := H2.out
  have hb2Y := hb3.trans (bY.mono hb3.size)
  have y4Y := bBlk hb2Y l4 y4
  have hBY := bNext hb12 hb2Y
  have hlY := h.next hBY
  have s3 := hb3.size
  have l5 := (Array.getElem?_eq_some_iff.1 y5).1
  obtain ⟨b5, hb5⟩ : ∃ q, V3.heap.size = q := ⟨_, rfl⟩
  rw [hb5] at y5 l5 s3
  try rw [hb5]
  have HY := Lib.hid (And.intro hBY (And.intro hlY (And.intro y4Y y5)))
  have wys := wy_size
  clear h hb12 y4 hb2Y hBY hlY hb3 bY H2 y4Y hb5
  by_cases h6 : 600 < n
  · have h6' : (600 : Int) < (n : Int) := by omega
    have HR0 := Lib.hid (show R = wy0 by rw [← HR.out, if_pos (.inl h6)])
    obtain ⟨hBY, hlY, y4Y, y5⟩ := HY.out
    have HBY := Lib.hid hBY
    clear hBY hlY HY
    go_wp2_with (first
      | (refine wpList_built rfl 37 #[] rfl (cs := #[.slice none 0 0, .int .i64 0, .int .i64 0]) (by simp only [List.map_toArray, List.map_nil]; exact built_wy0) ?_)
      | (refine wpList_store_row rfl 37 (.tmp 4) (.tmp 20) rfl _ #[.slice none 0 0, .int .i64 0, .int .i64 0] rfl rfl _ zw y4Y wys (by rw [hz3]; rfl) (by simp [Value.oneCell']) ?_)
      | fail)
    generalize hX : World.setRow _ _ _ = X9
    have b9 : X9.heap[b4]? = some (.cells #[.slice none 0 0, .int .i64 0, .int .i64 0] 37) := by rw [← hX]; exact setRow_heap _ _ _ _ _ _ y4Y
    have hBX : Below w.heap.size w X9 := by rw [← hX]; exact bSetRow HBY.out (by omega) _
    clear hX
    have hld := run_loadVar_row (P := Try.prog) X9 _ _ 37 _ _ _ b9 Try.underlying37 rfl wys
    refine bodyPost_ret (by simp [results, Try.results14, Act.put, asAddr, Result.andThen, hld]; try rfl) rfl ?_
    exact ⟨none, 0, 0, by rw [HR0.out]; rfl, by rw [HR0.out]; exact ⟨fun x hx => by simp [wy0] at hx, rfl, Sl.nil, Nat.le_refl _⟩, fun b o i e => (by cases e), hBX⟩
  · have h6' : ¬ (600 : Int) < (n : Int) := by omega
    obtain ⟨hBY, hlY, y4Y, y5⟩ := HY.out
    have hboxed := boxed_any (c := c) (wd := wd) (tl := tl) (-1) (n : Int) (by omega) Y hlY
    unfold pgv at hboxed
    have HY2 := Lib.hid (And.intro hBY (And.intro hlY (And.intro y4Y y5)))
    have ly4 := (Array.getElem?_eq_some_iff.1 y4Y).1
    clear hBY hlY y4Y HY
    obtain ⟨BX, hBX⟩ : ∃ q, bx l (-1) (n : Int) = q := ⟨_, rfl⟩
    rw [hBX] at hboxed
    go_wp2_with (first | (refine wpList_load_row_g (by simp [Region.wanted, yielded, Act.put]) 59 (.tmp 5) rfl _ rfl _ #[.slice A n c, .int .i64 wd, .int .i64 tl] (0, 0) _ y5 Try.underlying59 rfl pgi ?_) | fail)
    refine Calls.mono hboxed ?_
    rintro e U1 ⟨rfl, hb1⟩
    clear hboxed y5
    obtain ⟨hBY, hlY, y4Y0, y50⟩ := HY2.out
    have y4Y := bBlk hb1 ly4 y4Y0
    have y5 := bBlk hb1 l5 y50
    have hB1 := bNext hBY hb1
    have hl1 := hlY.next hb1
    have s4 := hb1.size
    clear hBY hlY y4Y0 y50 hb1 HY2
    cases BX
    · have HR0 := Lib.hid (show R = wy0 by rw [← HR.out, if_pos (.inr hBX)])
      have HBY := Lib.hid hB1
      clear hB1 hl1 hBX
      go_wp2_with (first
        | (refine wpList_built rfl 37 #[] rfl (cs := #[.slice none 0 0, .int .i64 0, .int .i64 0]) (by simp only [List.map_toArray, List.map_nil]; exact built_wy0) ?_)
        | (refine wpList_store_row rfl 37 (.tmp 4) (.tmp 20) rfl _ #[.slice none 0 0, .int .i64 0, .int .i64 0] rfl rfl _ zw y4Y wys (by rw [hz3]; rfl) (by simp [Value.oneCell']) ?_)
        | fail)
      generalize hX : World.setRow _ _ _ = X9
      have b9 : X9.heap[b4]? = some (.cells #[.slice none 0 0, .int .i64 0, .int .i64 0] 37) := by rw [← hX]; exact setRow_heap _ _ _ _ _ _ y4Y
      have hBX : Below w.heap.size w X9 := by rw [← hX]; exact bSetRow HBY.out (by omega) _
      clear hX
      have hld := run_loadVar_row (P := Try.prog) X9 _ _ 37 _ _ _ b9 Try.underlying37 rfl wys
      refine bodyPost_ret (by simp [results, Try.results14, Act.put, asAddr, Result.andThen, hld]; try rfl) rfl ?_
      exact ⟨none, 0, 0, by rw [HR0.out]; rfl, by rw [HR0.out]; exact ⟨fun x hx => by simp [wy0] at hx, rfl, Sl.nil, Nat.le_refl _⟩, fun b o i e => (by cases e), hBX⟩
    · have hnb : ¬ (600 < n ∨ bx l (-1) (n : Int) = false) := by rw [hBX]; simp; omega
      have hR := HR.out
      rw [if_neg hnb] at hR
      have hs1 := search_any (c := c) (wd := wd) (tl := tl) false (by omega) hwd U1 hl1
      have hs2 := fun U (hb : Below U1.heap.size U1 U) => search_any (c := c) (wd := wd) (tl := tl) true (by omega) hwd U (hl1.next hb)
      unfold pgv at hs1 hs2
      obtain ⟨o1, ho1⟩ : ∃ q, srch l wd tl false = q := ⟨_, rfl⟩
      obtain ⟨o2, ho2⟩ : ∃ q, srch l wd tl true = q := ⟨_, rfl⟩
      simp only [ho1, ho2] at hs1 hs2 hR
      have HR2 := Lib.hid hR
      have HU := Lib.hid (And.intro hB1 (And.intro y4Y y5))
      have l51 : b5 < U1.heap.size := by omega
      have ly41 := (Array.getElem?_eq_some_iff.1 y4Y).1
      clear hBX hnb hR hB1 hl1 y4Y ho1 ho2 HR
      go_upto_region 4 with (fail)
      refine wp_region_lit ?_
      refine wpList_load_row rfl 59 (.tmp 5) rfl _ rfl _ #[.slice A n c, .int .i64 wd, .int .i64 tl] (0, 0) _ y5 Try.underlying59 rfl pgi ?_
      (try simp only [Act.put, List.setIfInBounds_toArray, List.set_cons_zero, List.set_cons_succ])
      clear y5
      go_wp2_with fail
      refine Calls.mono hs1 ?_
      rintro e U2 ⟨A2, m2, c2, rfl, hiv2, hf2, hb2⟩
      clear hs1
      obtain ⟨cb, hcb⟩ : ∃ q : Array Value, #[.slice A2 m2 c2, .int .i64 (o1.getD wy0).total, .int .i64 (o1.getD wy0).over, .bool o1.isSome] = q := ⟨_, rfl⟩
      have hi4 : (Try.prog.info? 67).map (·.size) = some cb.size := by rw [← hcb]; exact best_size
      have hc4 : cb.all (·.oneCell') = true := by rw [← hcb]; simp [Value.oneCell']
      have hz4 : bz.toArray.size = cb.size := by rw [← hcb]; rfl
      rw [hcb]
      obtain ⟨zb, hzb⟩ : ∃ q, bz.toArray = q := ⟨_, rfl⟩
      rw [hzb] at hbz hz4
      obtain ⟨Y2, hY2, y6, bY2⟩ := newRow U2 zb cb 67
      have HC := Lib.hid hcb
      clear hzb hcb
      go_upto_region 5 with (first
        | (refine wpList_new rfl hbz rfl ?_)
        | (refine wpList_store_row rfl 67 (.tmp 6) (.tmp 22) rfl _ cb rfl rfl _ zb (heap_alloc_new _ _) hi4 hz4 hc4 ?_)
        | fail)
      try rw [hY2]
      clear hY2
      obtain ⟨hB1, y4Y, y5⟩ := HU.out
      have hb12 := bNext hb2 bY2
      have y42 := bBlk hb12 ly41 y4Y
      have y52 := bBlk hb12 l51 y5
      have hB2 := bNext hB1 hb12
      have hiv2Y := hiv2.nxt bY2
      have s5 := hb2.size
      have s6 := bY2.size
      have l6 := (Array.getElem?_eq_some_iff.1 y6).1
      obtain ⟨b6, hb6⟩ : ∃ q, U2.heap.size = q := ⟨_, rfl⟩
      rw [hb6] at y6 l6 s6 s5
      try rw [hb6]
      have k3 : Y2.cell? ⟨b6, 3, none⟩ = some (.bool o1.isSome) := blk_cell y6 (by rw [← HC.out]; rfl)
      have HV := Lib.hid (And.intro hB2 (And.intro hiv2Y (And.intro hf2 hb12)))
      clear hB1 y4Y y5 hb12 hB2 hiv2Y bY2 hiv2 hf2 hb2 HU hb6
      cases o1 with
      | some y =>
        simp only [Option.isSome_some] at k3
        obtain rfl : y = R := HR2.out
        have hrow : Y2.rangeAt b6 0 [.slice A2 m2 c2, .int .i64 y.total, .int .i64 y.over] := fun j v hj => by
          rw [Nat.zero_add]
          match j, hj with
          | 0, hj => injection hj with hj; subst hj; exact blk_cell y6 (by rw [← HC.out]; rfl)
          | 1, hj => injection hj with hj; subst hj; exact blk_cell y6 (by rw [← HC.out]; rfl)
          | 2, hj => injection hj with hj; subst hj; exact blk_cell y6 (by rw [← HC.out]; rfl)
        obtain ⟨cw, hcw⟩ : ∃ q : List Value, [.slice A2 m2 c2, .int .i64 y.total, .int .i64 y.over] = q := ⟨_, rfl⟩
        rw [hcw] at hrow
        have hw3 : (Try.prog.info? 37).map (·.size) = some cw.length := by rw [← hcw]; exact wy_size
        have hw3' : (Try.prog.info? 37).map (·.size) = some cw.toArray.size := by rw [← hcw]; exact wy_size
        have hzc : zw.size = cw.toArray.size := by rw [hz3, ← hcw]; rfl
        have hc1 : cw.toArray.all (·.oneCell') = true := by rw [← hcw]; simp [Value.oneCell']
        have y4U := y42
        have HF := Lib.hid (And.intro HV.out.1 (And.intro HV.out.2.1 (And.intro HV.out.2.2.1 hcw)))
        clear y42 y52 y6 hcw hs2
        go_wp2_with (first
          | (refine wpList_load_mid rfl 37 (.tmp 28) rfl b6 0 rfl cw _ hrow Try.underlying37 rfl hw3 ?_)
          | (refine wpList_store_row rfl 37 (.tmp 4) (.tmp 29) rfl _ cw.toArray rfl rfl _ zw y4U hw3' hzc hc1 ?_)
          | fail)
        generalize hX : World.setRow _ _ _ = X9
        have b9 : X9.heap[b4]? = some (.cells cw.toArray 37) := by rw [← hX]; exact setRow_heap _ _ _ _ _ _ y4U
        obtain ⟨hBU, hivU, hfU, hcwe⟩ := HF.out
        have hBX : Below w.heap.size w X9 := by rw [← hX]; exact bSetRow hBU (by omega) _
        have hivX := hivU.set (fun b o i e => by have := hfU b o i e; omega) _ hX
        clear hX
        have hld := run_loadVar_row (P := Try.prog) X9 _ _ 37 _ _ _ b9 Try.underlying37 rfl hw3'
        refine bodyPost_ret (by simp [results, Try.results14, Act.put, asAddr, Result.andThen, hld]; try rfl) rfl ?_
        exact ⟨_, _, _, by rw [← hcwe]; rfl, hivX, fun b o i e => by have := hfU b o i e; omega, hBX⟩
      | none =>
        simp only [Option.isSome_none] at k3
        obtain rfl : o2.getD wy0 = R := HR2.out
        have hs3 := hs2 Y2 HV.out.2.2.2
        clear hs2
        have y5 := y52
        clear y52
        go_upto_region 6 with (fail)
        refine wp_region_lit ?_
        refine wpList_load_row rfl 59 (.tmp 5) rfl _ rfl _ #[.slice A n c, .int .i64 wd, .int .i64 tl] (0, 0) _ y5 Try.underlying59 rfl pgi ?_
        (try simp only [Act.put, List.setIfInBounds_toArray, List.set_cons_zero, List.set_cons_succ])
        clear y5 k3
        go_wp2_with fail
        refine Calls.mono hs3 ?_
        rintro e U3 ⟨A3, m3, c3, rfl, hiv3, hf3, hb3⟩
        clear hs3
        have y63 := bBlk hb3 l6 y6
        have y43 := bBlk hb3 (by omega) y42
        obtain ⟨cd, hcd⟩ : ∃ q : Array Value, #[.slice A3 m3 c3, .int .i64 (o2.getD wy0).total, .int .i64 (o2.getD wy0).over, .bool o2.isSome] = q := ⟨_, rfl⟩
        have hi5 : (Try.prog.info? 67).map (·.size) = some cd.size := by rw [← hcd]; exact best_size
        have hc5 : cd.all (·.oneCell') = true := by rw [← hcd]; simp [Value.oneCell']
        have hz5 : cb.size = cd.size := by rw [← hcd, ← HC.out]; rfl
        rw [hcd]
        have HD := Lib.hid hcd
        clear hcd
        obtain ⟨Y3, hY3⟩ : ∃ q, U3.setRow b6 cd = q := ⟨_, rfl⟩
        have y6Y : Y3.heap[b6]? = some (.cells cd 67) := by rw [← hY3]; exact setRow_heap _ _ _ _ _ _ y63
        have y4U : Y3.heap[b4]? = some (.cells zw 37) := by rw [← hY3]; exact (setRow_other _ _ _ _ (by omega)).trans y43
        have hBU : Below w.heap.size w Y3 := by rw [← hY3]; exact bSetRow (bNext HV.out.1 hb3) (by omega) _
        have hivU := hiv3.set (fun b o i e => by have := hf3 b o i e; omega) _ hY3
        have HV3 := Lib.hid (And.intro hBU (And.intro hivU hf3))
        clear hBU hivU hf3 hiv3 hb3 y42 y43 y6
        go_upto_region 7 with (first
          | (refine wpList_store_row rfl 67 (.tmp 6) (.tmp 27) rfl _ cd rfl rfl _ cb y63 hi5 hz5 hc5 ?_)
          | fail)
        try rw [hY3]
        clear hY3 y63
        have hrow : Y3.rangeAt b6 0 [.slice A3 m3 c3, .int .i64 (o2.getD wy0).total, .int .i64 (o2.getD wy0).over] := fun j v hj => by
          rw [Nat.zero_add]
          match j, hj with
          | 0, hj => injection hj with hj; subst hj; exact blk_cell y6Y (by rw [← HD.out]; rfl)
          | 1, hj => injection hj with hj; subst hj; exact blk_cell y6Y (by rw [← HD.out]; rfl)
          | 2, hj => injection hj with hj; subst hj; exact blk_cell y6Y (by rw [← HD.out]; rfl)
        obtain ⟨cw, hcw⟩ : ∃ q : List Value, [.slice A3 m3 c3, .int .i64 (o2.getD wy0).total, .int .i64 (o2.getD wy0).over] = q := ⟨_, rfl⟩
        rw [hcw] at hrow
        have hw3 : (Try.prog.info? 37).map (·.size) = some cw.length := by rw [← hcw]; exact wy_size
        have hw3' : (Try.prog.info? 37).map (·.size) = some cw.toArray.size := by rw [← hcw]; exact wy_size
        have hzc : zw.size = cw.toArray.size := by rw [hz3, ← hcw]; rfl
        have hc1 : cw.toArray.all (·.oneCell') = true := by rw [← hcw]; simp [Value.oneCell']
        have HF := Lib.hid (And.intro HV3.out.1 (And.intro HV3.out.2.1 (And.intro HV3.out.2.2 hcw)))
        clear hcw y6Y
        go_wp2_with (first
          | (refine wpList_load_mid rfl 37 (.tmp 28) rfl b6 0 rfl cw _ hrow Try.underlying37 rfl hw3 ?_)
          | (refine wpList_store_row rfl 37 (.tmp 4) (.tmp 29) rfl _ cw.toArray rfl rfl _ zw y4U hw3' hzc hc1 ?_)
          | fail)
        generalize hX : World.setRow _ _ _ = X9
        have b9 : X9.heap[b4]? = some (.cells cw.toArray 37) := by rw [← hX]; exact setRow_heap _ _ _ _ _ _ y4U
        obtain ⟨hBU, hivU, hfU, hcwe⟩ := HF.out
        have hBX : Below w.heap.size w X9 := by rw [← hX]; exact bSetRow hBU (by omega) _
        have hivX := hivU.set (fun b o i e => by have := hfU b o i e; omega) _ hX
        clear hX
        have hld := run_loadVar_row (P := Try.prog) X9 _ _ 37 _ _ _ b9 Try.underlying37 rfl hw3'
        refine bodyPost_ret (by simp [results, Try.results14, Act.put, asAddr, Result.andThen, hld]; try rfl) rfl ?_
        exact ⟨_, _, _, by rw [← hcwe]; rfl, hivX, fun b o i e => by have := hfU b o i e; omega, hBX⟩
end Go.Proofs.Ytnojikbecohhfaa
