/- The walk over BreaksLeast (s10/bkleast.py writes it). -/
import Derived.Test.YtnojikbecohhfaaBkLst
import Derived.Test.YtnojikbecohhfaaBkArg
namespace Go.Proofs.Ytnojikbecohhfaa
set_option linter.unusedSimpArgs false
set_option linter.unusedVariables false
open Go.RowKit Go.Sort

attribute [-go_sem] Builtin.append_
set_option maxHeartbeats 16000000 in
set_option maxRecDepth 100000 in
theorem breaksLeast_core {A : Option Addr} {n c : Nat} {l : List It} (hm : n ≤ 10000000000000) (sw sh st sc si : Int) {w : World} (h : Sl w w.heap.size 6 A n (encs l)) :
    Calls Try.prog 4 #[.slice A n c, .agg #[.int .i64 sw, .int .i64 sh, .int .i64 st, .int .i64 sc, .int .i64 si]] w (Ret w (.bool true)) := by
  have hl := its_len h
  obtain ⟨V1, hV1⟩ : ∃ q, w.alloc (.cells #[.int .i64 sw, .int .i64 sh, .int .i64 st, .int .i64 sc, .int .i64 si] 24) = q := ⟨_, rfl⟩
  have y3 : V1.heap[w.heap.size]? = some (.cells #[.int .i64 sw, .int .i64 sh, .int .i64 st, .int .i64 sc, .int .i64 si] 24) := by rw [← hV1]; exact heap_alloc_new _ _
  have hb1 : Below w.heap.size w V1 := by rw [← hV1]; exact (Below.refl _ _).alloc (Nat.le_refl _) _
  have hsi : (Try.prog.info? 24).map (·.size) = some (#[.int .i64 sw, .int .i64 sh, .int .i64 st, .int .i64 sc, .int .i64 si] : Array Value).size := sty_size
  have hbk := rbreaks_big (c := c) hm (h.next hb1)
  have hlV := h.next hb1
  obtain ⟨b3, hb3⟩ : ∃ q, w.heap.size = q := ⟨_, rfl⟩
  rw [hb3] at y3
  have l3 := (Array.getElem?_eq_some_iff.1 y3).1
  have H1 := Lib.hid (And.intro hb1 (And.intro hlV (And.intro y3 hl)))
  clear h hb1 hlV y3 hl
  go_enter Try.func4, Try.ntmps4
  go_upto_region 1 with (fail)
  try rw [hV1]
  try rw [hb3]
  clear hV1 hb3
  go_wp2_with fail
  refine Calls.mono hbk ?_
  rintro e V2 ⟨AP, cP, rfl, hownP, hb2⟩
  clear hbk
  obtain ⟨hb1, hlV, y3, hl⟩ := H1.out
  have hB2 := bNext hb1 hb2
  have hl2 := hlV.next hb2
  have y32 := bBlk hb2 l3 y3
  rw [ints_ivs] at hownP
  have hivP0 : IvN V2 b3 AP (brks l).length cP (plcs l) := IvN.own (Z := V1) (by unfold plcs; rw [List.length_map]) hownP l3 (fun z hz => by have := plcs_rng hz; omega)
  have hivP := hivP0.iv
  clear hivP0
  have hNP : 1 ≤ (brks l).length ∧ (brks l).length ≤ n + 1 := by have h0 := brks_pos l; have h1 := brks_len l; have h2 := brksTo_len l l.length; omega
  have hfr := fair_any (c := c) (by simp only [maxLen]; omega) hl2
  have HPR := Lib.hid (fun z (hz : z ∈ plcs l) => (plcs_rng hz))
  obtain ⟨NP, hNPe⟩ : ∃ q, (brks l).length = q := ⟨_, rfl⟩
  obtain ⟨PL, hPL⟩ : ∃ q, plcs l = q := ⟨_, rfl⟩
  rw [hNPe] at hivP hNP
  rw [hPL] at hivP HPR
  try rw [hNPe]
  have H2 := Lib.hid (And.intro hB2 (And.intro hl2 (And.intro y32 (And.intro hivP (And.intro hivP.len hl)))))
  have l32 := (Array.getElem?_eq_some_iff.1 y32).1
  have HNE := Lib.hid hNPe
  clear hb1 hlV y3 hl hB2 hl2 y32 hivP hownP hb2 H1 hNPe hPL l3
  go_wp2_with fail
  refine Calls.mono hfr ?_
  rintro e V2' ⟨⟨t, rfl, ht⟩, rfl⟩
  clear hfr
  cases t
  · clear ht
    go_wp2_with fail
    refine Calls.mono (wakes17_any _) ?_
    rintro e U ⟨rfl, hbU⟩
    have HBF := Lib.hid (bNext H2.out.1 hbU)
    clear hbU
    go_wp2_with fail
    go_returns
    exact Ret.mk rfl HBF.out
  · have hn7 := ht rfl
    clear ht
    by_cases h11 : 11 < NP
    · have h11' : (11 : Int) < (NP : Int) := by omega
      go_wp2_with fail
      refine Calls.mono (wakes17_any _) ?_
      rintro e U ⟨rfl, hbU⟩
      have HBF := Lib.hid (bNext H2.out.1 hbU)
      clear hbU
      go_wp2_with fail
      go_returns
      exact Ret.mk rfl HBF.out
    · have h11' : ¬ (11 : Int) < (NP : Int) := by omega
      have hd11 : decide ((11 : Int) < (NP : Int)) = false := decide_eq_false h11'
      by_cases h6 : 600 < n
      · have h6' : (600 : Int) < (n : Int) := by omega
        go_wp2_with fail
        refine Calls.mono (wakes17_any _) ?_
        rintro e U ⟨rfl, hbU⟩
        have HBF := Lib.hid (bNext H2.out.1 hbU)
        clear hbU
        go_wp2_with fail
        go_returns
        exact Ret.mk rfl HBF.out
      · have h6' : ¬ (600 : Int) < (n : Int) := by omega
        have hd6 : decide ((600 : Int) < (n : Int)) = false := decide_eq_false h6'
        have hbe := best_any (c := c) sw sh st sc si (by omega) V2 H2.out.2.1
        have HCUT := Lib.hid (And.intro (cutS_bd sw) (cutS_bd st))
        have htoA := fun (E : List Int) (A' : Option Addr) (m c' : Nat) (U : World) (hb : Below V2.heap.size V2 U) (he : IvAt U U.heap.size A' m c' E) (hm : m ≤ 1000000) => total_any (c := c) (c' := c') sw sh st sc si (by omega) hm U (H2.out.2.1.next hb) he
        have hmaA := fun (E : List Int) (A' : Option Addr) (m c' : Nat) (U : World) (hb : Below V2.heap.size V2 U) (he : IvAt U U.heap.size A' m c' E) (hm : m ≤ 1000000) => may_any (c := c) (c' := c') sw sh st sc si (by omega) hm U (H2.out.2.1.next hb) he
        obtain ⟨wd, hwd⟩ : ∃ q, cutS sw = q := ⟨_, rfl⟩
        obtain ⟨tl, htl⟩ : ∃ q, cutS st = q := ⟨_, rfl⟩
        simp only [hwd, htl] at hbe htoA hmaA
        have HC := Lib.hid (And.intro htoA hmaA)
        clear htoA hmaA hwd htl HCUT
        obtain ⟨R, hR⟩ : ∃ q, bestP l wd tl = q := ⟨_, rfl⟩
        rw [hR] at hbe
        unfold BestP wyv at hbe
        have HR := Lib.hid hR
        have y32 := H2.out.2.2.1
        clear hR
        go_upto_region 4 with (fail)
        refine wp_region_lit ?_
        iterate 3 (first | go_guarded | go_step)
        (try simp only [Act.put, List.setIfInBounds_toArray, List.set_cons_zero, List.set_cons_succ])
        refine wpList_load_row rfl 24 (.tmp 3) rfl _ rfl _ #[.int .i64 sw, .int .i64 sh, .int .i64 st, .int .i64 sc, .int .i64 si] (0, 0) _ y32 Try.underlying24 rfl hsi ?_
        (try simp only [Act.put, List.setIfInBounds_toArray, List.set_cons_zero, List.set_cons_succ])
        clear y32
        go_wp2_with fail
        refine Calls.mono hbe ?_
        rintro e V3 ⟨A6, m6, c6, rfl, hiv, -, hb3⟩
        clear hbe
        have hwi : (Try.prog.info? 37).map (·.size) = some (#[Value.slice A6 m6 c6, .int .i64 R.total, .int .i64 R.over] : Array Value).size := wy_size
        have hwz := wyZ
        obtain ⟨Y, hY, y6, bY⟩ := newRow V3 wyz #[.slice A6 m6 c6, .int .i64 R.total, .int .i64 R.over] 37
        simp only
        iterate 1 (first | go_guarded | go_step | skip)
        refine wpList_new rfl hwz rfl ?_
        (try simp only [Act.put, List.setIfInBounds_toArray, List.set_cons_zero, List.set_cons_succ])
        refine wpList_store_row rfl 37 (.tmp 6) (.tmp 37) rfl _ #[.slice A6 m6 c6, .int .i64 R.total, .int .i64 R.over] rfl rfl _ wyz (heap_alloc_new _ _) hwi rfl (by simp [Value.oneCell']) ?_
        (try simp only [Act.put, List.setIfInBounds_toArray, List.set_cons_zero, List.set_cons_succ])
        rw [hY]
        obtain ⟨hB2, hl2, y32, hivP, hPlen, hl⟩ := H2.out
        have hb2Y := bNext hb3 bY
        have hBY := bNext hB2 hb2Y
        have hlY := hl2.next hb2Y
        have y3Y := bBlk hb2Y l32 y32
        have hivY := hiv.nxt bY
        have hivPY := hivP.nxt hb2Y
        obtain ⟨b6, hb6⟩ : ∃ q, V3.heap.size = q := ⟨_, rfl⟩
        rw [hb6] at y6
        try rw [hb6]
        have l6 := (Array.getElem?_eq_some_iff.1 y6).1
        have l3Y := (Array.getElem?_eq_some_iff.1 y3Y).1
        have hm6 := hivY.len
        have HY := Lib.hid (And.intro hBY (And.intro hlY (And.intro y3Y (And.intro y6 (And.intro hivY (And.intro hl (And.intro hm6 (And.intro hivPY (And.intro hPlen hb2Y)))))))))
        have k60 : Y.cell? ⟨b6, 0, none⟩ = some (.slice A6 m6 c6) := blk_cell y6 rfl
        have k61 : Y.cell? ⟨b6, 1, none⟩ = some (.int .i64 R.total) := blk_cell y6 rfl
        have k62 : Y.cell? ⟨b6, 2, none⟩ = some (.int .i64 R.over) := blk_cell y6 rfl
        clear hB2 hl2 y32 hivP hPlen hl hb2Y hBY hlY y3Y hivY hivPY hY hb3 bY hb6 hm6 hwi hwz H2 y6 hiv
        have hfi := first_any (c := c) (-1) (by omega) HY.out.2.1
        by_cases hb : bx l (-1) n = true
        · have hbl : bx l (-1) l.length = true := by rw [HY.out.2.2.2.2.2.1]; exact hb
          obtain ⟨mb, hwR, hle⟩ := least (l := l) (wd := wd) (tl := tl) (by rw [HY.out.2.2.2.2.2.1]; omega) hbl
          have hm69 : m6 ≤ 1000000 := by
            obtain ⟨all, -, g3, -⟩ := best_path (l := l) (wd := wd) (tl := tl) (by rw [HY.out.2.2.2.2.2.1]; omega) hbl
            have := srch_len g3
            rw [HR.out, HY.out.2.2.2.2.2.2.1, HNE.out] at this
            omega
          simp only [HR.out] at hwR hle
          have hF0 : ((fst l (-1) : Nat) : Int) < (n : Int) := by unfold bx at hb; exact of_decide_eq_true hb
          obtain ⟨F0, hF0e⟩ : ∃ q, fst l (-1) = q := ⟨_, rfl⟩
          rw [hF0e] at hfi hF0
          have HLE := Lib.hid (And.intro hwR hle)
          clear hF0e hb hbl hwR hle k60 k61 k62
          go_upto_region 5 with (fail)
          go_wp2_with fail
          refine Calls.mono hfi ?_
          rintro e Y' ⟨rfl, rfl⟩
          clear hfi
          have k60 : Y.cell? ⟨b6, 0, none⟩ = some (.slice A6 m6 c6) := blk_cell HY.out.2.2.2.1 rfl
          have y3Y := HY.out.2.2.1
          have hto := HC.out.1 _ _ _ _ Y HY.out.2.2.2.2.2.2.2.2.2 HY.out.2.2.2.2.1 hm69
          rw [HLE.out.1] at hto
          simp only [totT, wkY, Option.isSome_some, Option.getD_some, if_true] at hto
          go_wp2_with (first | (refine wpList_load_row rfl 24 (.tmp 3) rfl _ rfl _ #[.int .i64 sw, .int .i64 sh, .int .i64 st, .int .i64 sc, .int .i64 si] (0, 0) _ y3Y Try.underlying24 rfl hsi ?_) | fail)
          refine Calls.mono hto ?_
          rintro e Y2 ⟨rfl, hb2⟩
          clear hto k60 y3Y
          have hb2V := bNext HY.out.2.2.2.2.2.2.2.2.2 hb2
          have hma := HC.out.2 _ _ _ _ Y2 hb2V (HY.out.2.2.2.2.1.nxt hb2) hm69
          rw [HLE.out.1] at hma
          simp only [wkM, Option.getD_some] at hma
          have y32 := bBlk hb2 l3Y HY.out.2.2.1
          have y62 := bBlk hb2 l6 HY.out.2.2.2.1
          have k60 : Y2.cell? ⟨b6, 0, none⟩ = some (.slice A6 m6 c6) := blk_cell y62 rfl
          have k61 : Y2.cell? ⟨b6, 1, none⟩ = some (.int .i64 R.total) := blk_cell y62 rfl
          have k62 : Y2.cell? ⟨b6, 2, none⟩ = some (.int .i64 R.over) := blk_cell y62 rfl
          have HB2 := Lib.hid (And.intro hb2 hb2V)
          clear hb2 hb2V y62
          go_wp2_with (first | (refine wpList_load_row rfl 24 (.tmp 3) rfl _ rfl _ #[.int .i64 sw, .int .i64 sh, .int .i64 st, .int .i64 sc, .int .i64 si] (0, 0) _ y32 Try.underlying24 rfl hsi ?_) | fail)
          refine Calls.mono hma ?_
          rintro e Y3 ⟨rfl, hb3⟩
          clear hma k60 k61 k62 y32
          have hYY := bNext HB2.out.1 hb3
          have hBY3 := bNext HY.out.1 hYY
          have hlY3 := HY.out.2.1.next hYY
          have y33 := bBlk hYY l3Y HY.out.2.2.1
          have y63 := bBlk hYY l6 HY.out.2.2.2.1
          have hiv3 := HY.out.2.2.2.2.1.nxt hYY
          have hivP3 := HY.out.2.2.2.2.2.2.2.1.nxt hYY
          have hV3 := bNext HY.out.2.2.2.2.2.2.2.2.2 hYY
          have l33 := (Array.getElem?_eq_some_iff.1 y33).1
          have l63 := (Array.getElem?_eq_some_iff.1 y63).1
          have H3 := Lib.hid (And.intro hBY3 (And.intro hlY3 (And.intro y33 (And.intro y63 (And.intro hiv3 (And.intro hivP3 (And.intro hV3 HY.out.2.2.2.2.2.2.2.2.1)))))))
          clear hYY hBY3 hlY3 y33 y63 hiv3 hivP3 hV3 hb3 HB2 HY
          obtain ⟨NI, hNI⟩ : ∃ q : Nat, NP = q + 1 := ⟨NP - 1, by omega⟩
          have hNI' : (NP : Int) - 1 = (NI : Int) := by omega
          have g0 : IntKind.i64.wrap ((NP : Int) - 1) = (NI : Int) := by rw [hNI']; exact wrap_small _ (by omega) (by omega)
          have hNI11 : NI ≤ 11 := by omega
          have HNI := Lib.hid hNI
          clear hNI hNI'
          go_upto_region 13 with (fail)
          clear g0
          obtain ⟨M, hM, hM2⟩ : ∃ M : Nat, Hid (wrap64 ((2 : Int) ^ NI) = (M : Int)) ∧ M ≤ 2048 := by
            have h2 : 2 ^ NI ≤ 2 ^ 11 := Nat.pow_le_pow_right (by omega) (by omega)
            obtain ⟨q, hq⟩ : ∃ q, 2 ^ NI = q := ⟨_, rfl⟩
            rw [hq] at h2
            have : ((2 : Int) ^ NI) = (q : Int) := by rw [← hq]; simp
            refine ⟨q, Lib.hid ?_, by omega⟩
            rw [this]
            exact IntWalk.wrap64_in _ ⟨by omega, by omega⟩
          go_loopw [12] (fun s12 wr => ∃ (k : Nat), k ≤ M ∧ s12 = .int .i64 k ∧ Below Y3.heap.size Y3 wr) (fun i _ => M - (intOf i).toNat)
          case atStart => exact ⟨0, by omega, rfl, Below.refl _ _⟩
          case round =>
            obtain ⟨k, hk, rfl, hbr⟩ := hrel
            have hsz := hbr.size
            by_cases hkM : k < M
            · have hkM' : (k : Int) < wrap64 ((2 : Int) ^ NI) := by rw [hM.out]; omega
              have HB := Lib.hid hbr
              clear hbr
              go_upto_region 17 with (fail)
              rename World => Zo
              go_loopw [13, 14] (fun s13 s14 wr => ∃ (i m : Nat) (A' : Option Addr) (c' : Nat) (E : List Int), i ≤ NI ∧ m ≤ i ∧ s13 = .slice A' m c' ∧ s14 = .int .i64 i ∧ wr.ownsRow Zo.heap.size 3 1 (.slice A' m c') m (ivs E) ∧ (∀ z ∈ E, 0 ≤ z ∧ z ≤ n) ∧ Below Zo.heap.size Zo wr) (fun _ i _ => NI - (intOf i).toNat)
              case atStart => exact ⟨0, 0, none, 0, [], by omega, by omega, rfl, rfl, World.ownsRow_nil _ _ _ _, by simp, Below.refl _ _⟩
              case round =>
                obtain ⟨i, m, A', c', E, hi, hm, rfl, rfl, hown, hE, hbi⟩ := hrel
                by_cases hin : i < NI
                · have hin' : (i : Int) < (NI : Int) := by omega
                  have hi0 : (0 : Int) ≤ (i : Int) := by omega
                  have g1 : IntKind.i64.wrap ((i : Int) + 1) = ((i + 1 : Nat) : Int) := by rw [wrap_small _ (by omega) (by omega)]; omega
                  go_upto_if 108 with (fail)
                  generalize (bits BinOp.and IntKind.i64 ((k : Int) / 2 ^ i) 1 == 1) = bb
                  cases bb
                  · have HO := Lib.hid (And.intro hown (And.intro hE hbi))
                    clear hown hE hbi
                    go_wp2_with fail
                    go_roundw
                    case rel => exact ⟨i + 1, m, A', c', E, by omega, by omega, rfl, by go_num, HO.out.1, HO.out.2.1, HO.out.2.2⟩
                    case measure => simp [intOf]; omega
                  · obtain ⟨z, hz⟩ : ∃ z, PL[i]? = some z := ⟨_, List.getElem?_eq_getElem (by rw [H3.out.2.2.2.2.2.2.2]; have := HNI.out; omega)⟩
                    have hzr := HPR.out z (List.mem_of_getElem? hz)
                    have hllen := H3.out.2.1
                    have hllen2 := its_len hllen
                    obtain ⟨bP, oP, hAP, lP, hcz⟩ := (H3.out.2.2.2.2.2.1.nxt (bNext HB.out hbi)).entry hz
                    subst hAP
                    have hiP : (i : Int) < (NP : Int) := by have := HNI.out; omega
                    have hiPn : i < NP := by have := HNI.out; omega
                    have HE := Lib.hid hE
                    have hzr2 : 0 ≤ z ∧ z ≤ n := by omega
                    clear hz hE hllen hllen2 hzr
                    go_upto_region 20 with (fail)
                    refine wp_region_lit ?_
                    iterate 15 (first | go_guarded | go_step)
                    refine wpList_slice rfl 25 1 #[(0, .tmp 113)] rfl (by simp only [List.map_toArray, List.map_cons, List.map_nil]; exact ints1 _ wr) ?_
                    (try simp only [Act.put, List.setIfInBounds_toArray, List.set_cons_zero, List.set_cons_succ])
                    refine wpList_app _ rfl (.tmp 109) (.tmp 114) 25 rfl (base := Zo.heap.size) Try.underlying25 elemI rfl (hown.alloc _) rfl (Sl.new (sz := 1) (n := 1) (heap_alloc_new _ _) rfl) (one_ivs [z]) (by simp only [maxLen]; omega) (by omega) (by have := hbi.size; simp; omega) ?_
                    intro A38 c38 w38 hown38 hg38 hb38 hat38
                    have hb2 := (hbi.alloc hbi.size (.cells #[.int .i64 z] 3)).trans hb38
                    have hown2 : w38.ownsRow Zo.heap.size 3 1 (.slice A38 (m + 1) c38) (m + 1) (ivs (E ++ [z])) := by rw [ivs_append]; exact hown38
                    have hE2 : ∀ u ∈ E ++ [z], 0 ≤ u ∧ u ≤ n := fun u hu => by
                      rcases List.mem_append.1 hu with hu | hu
                      · exact HE.out u hu
                      · rw [List.mem_singleton.1 hu]; exact hzr2
                    have HRR := Lib.hid (And.intro hown2 (And.intro hE2 hb2))
                    clear hown38 hg38 hb38 hat38 hb2 hown hbi hown2 hE2 hcz HE
                    (try simp only [Act.put, List.setIfInBounds_toArray, List.set_cons_zero, List.set_cons_succ])
                    go_wp2_with fail
                    go_roundw
                    case rel => exact ⟨i + 1, m + 1, A38, c38, _, by omega, by omega, rfl, by go_num, HRR.out.1, HRR.out.2.1, HRR.out.2.2⟩
                    case measure => simp [intOf]; omega
                · obtain rfl : i = NI := by omega
                  have hin' : ¬ (i : Int) < (i : Int) := by omega
                  have HE := Lib.hid hE
                  clear hE
                  go_upto_region 21 with (fail)
                  refine wp_region_lit ?_
                  iterate 9 (first | go_guarded | go_step)
                  refine wpList_slice rfl 25 1 #[(0, .tmp 118)] rfl (by simp only [List.map_toArray, List.map_cons, List.map_nil]; exact ints1 _ wr) ?_
                  (try simp only [Act.put, List.setIfInBounds_toArray, List.set_cons_zero, List.set_cons_succ])
                  refine wpList_app _ rfl (.tmp 116) (.tmp 119) 25 rfl (base := Zo.heap.size) Try.underlying25 elemI rfl (hown.alloc _) rfl (Sl.new (sz := 1) (n := 1) (heap_alloc_new _ _) rfl) (one_ivs [(n : Int)]) (by simp only [maxLen]; omega) (by omega) (by have := hbi.size; simp; omega) ?_
                  intro A38 c38 w38 hown38 hg38 hb38 hat38
                  have hb2 := (hbi.alloc hbi.size (.cells #[.int .i64 (n : Int)] 3)).trans hb38
                  have hown2 : w38.ownsRow Zo.heap.size 3 1 (.slice A38 (m + 1) c38) (m + 1) (ivs (E ++ [(n : Int)])) := by rw [ivs_append]; exact hown38
                  have hlen : (E ++ [(n : Int)]).length = m + 1 := by have := (Sl.of_own hown2).len; rw [ivs_len] at this; omega
                  obtain ⟨_, _, e', hcap, -⟩ := own_form hown2
                  cases e'
                  have hiv : IvAt w38 w38.heap.size A38 (m + 1) c38 (E ++ [(n : Int)]) := ⟨fun z hz => by
                    rcases List.mem_append.1 hz with hz | hz
                    · have := HE.out z hz; omega
                    · rw [List.mem_singleton.1 hz]; omega, hlen, Sl.of_own hown2, hcap⟩
                  obtain ⟨E2, hE2⟩ : ∃ q, E ++ [(n : Int)] = q := ⟨_, rfl⟩
                  rw [hE2] at hiv
                  have hbY := bNext HB.out hb2
                  have hbV := bNext H3.out.2.2.2.2.2.2.1 hbY
                  have hto := HC.out.1 _ _ _ _ w38 hbV hiv (by omega)
                  have hma := fun U (hb : Below w38.heap.size w38 U) => HC.out.2 _ _ _ _ U (bNext hbV hb) (hiv.nxt hb) (by omega)
                  have hle := HLE.out.2 E2
                  obtain ⟨o, ho⟩ : ∃ q, walkP l wd tl E2 = q := ⟨_, rfl⟩
                  rw [ho] at hto
                  simp only [ho] at hma hle
                  have HI := Lib.hid (And.intro hiv (And.intro hbY (And.intro hma hle)))
                  have y38 := bBlk hbY l33 H3.out.2.2.1
                  have l38 := (Array.getElem?_eq_some_iff.1 y38).1
                  clear hiv hbY hbV hma hle hown hown2 hown38 hg38 hb38 hat38 hb2 hbi hlen hcap HE hE2 ho
                  (try simp only [Act.put, List.setIfInBounds_toArray, List.set_cons_zero, List.set_cons_succ])
                  go_upto_region 22 with (fail)
                  refine wp_region_lit ?_
                  iterate 3 (first | go_guarded | go_step)
                  (try simp only [Act.put, List.setIfInBounds_toArray, List.set_cons_zero, List.set_cons_succ])
                  refine wpList_load_row rfl 24 (.tmp 3) rfl _ rfl _ #[.int .i64 sw, .int .i64 sh, .int .i64 st, .int .i64 sc, .int .i64 si] (0, 0) _ y38 Try.underlying24 rfl hsi ?_
                  (try simp only [Act.put, List.setIfInBounds_toArray, List.set_cons_zero, List.set_cons_succ])
                  cases o with
                  | none =>
                    simp only [totT, wkY, Option.isSome_none, Option.getD_none, wy0] at hto
                    clear y38
                    go_wp2_with fail
                    refine Calls.mono hto ?_
                    rintro e w3 ⟨rfl, hb3⟩
                    clear hto
                    have g1 : IntKind.i64.wrap ((k : Int) + 1) = ((k + 1 : Nat) : Int) := by rw [wrap_small _ (by omega) (by omega)]; omega
                    have HB3 := Lib.hid (bNext HI.out.2.1 hb3)
                    clear hb3
                    go_wp2_with fail
                    go_roundw
                    case rel => exact ⟨k + 1, by omega, by go_num, HB3.out⟩
                    case measure => simp [intOf]; omega
                  | some xm =>
                    obtain ⟨x, mx⟩ := xm
                    simp only [totT, wkY, Option.isSome_some, Option.getD_some, if_true] at hto
                    clear y38
                    go_wp2_with fail
                    refine Calls.mono hto ?_
                    rintro e w3 ⟨rfl, hb3⟩
                    clear hto
                    have hma3 := HI.out.2.2.1 w3 hb3
                    simp only [wkM, Option.getD_some] at hma3
                    obtain ⟨g1, g2, g3⟩ := HI.out.2.2.2 x mx rfl
                    have hbY3 := bNext HI.out.2.1 hb3
                    have y39 := bBlk hbY3 l33 H3.out.2.2.1
                    have HB3 := Lib.hid (And.intro hbY3 hb3)
                    have HG := Lib.hid (And.intro g1 (And.intro g2 g3))
                    clear hb3 hbY3 g1 g2 g3
                    go_wp2_with (first | (refine wpList_load_row rfl 24 (.tmp 3) rfl _ rfl _ #[.int .i64 sw, .int .i64 sh, .int .i64 st, .int .i64 sc, .int .i64 si] (0, 0) _ y39 Try.underlying24 rfl hsi ?_) | fail)
                    refine Calls.mono hma3 ?_
                    rintro e w4 ⟨rfl, hb4⟩
                    clear hma3 y39
                    have hbY4 := bNext HB3.out.1 hb4
                    have k4 : w4.cell? ⟨b6, 0, none⟩ = some (.slice A6 m6 c6) := blk_cell (bBlk hbY4 l63 H3.out.2.2.2.1) rfl
                    have l64 : b6 < w4.heap.size := by have := hbY4.size; omega
                    have g1 : IntKind.i64.wrap ((k : Int) + 1) = ((k + 1 : Nat) : Int) := by rw [wrap_small _ (by omega) (by omega)]; omega
                    have HB4 := Lib.hid (And.intro hbY4 (bNext HB3.out.2 hb4))
                    clear hb4 hbY4 HB3
                    by_cases hmm : mx = mb
                    · subst hmm
                      have hleW := HG.out.2.2 rfl
                      unfold leW at hleW
                      rw [HG.out.1] at hleW
                      have hno : ¬ x.total < R.total := by rcases hleW with h | ⟨h, -⟩ <;> omega
                      have hnd : decide (x.total < R.total) = false := decide_eq_false hno
                      have HW := Lib.hid hleW
                      clear hleW
                      by_cases heq : x.total = R.total
                      · have heqd : (x.total == R.total) = true := by rw [heq]; exact beq_self_eq_true _
                        have hls := lesser_any w4 (HI.out.1.nxt HB4.out.2) (H3.out.2.2.2.2.1.nxt HB4.out.1) (by omega) (by omega)
                        unfold LessP at hls
                        cases mx
                        · go_wp2_with fail
                          refine Calls.mono hls ?_
                          rintro e w5 ⟨r, rfl, hr, hb5⟩
                          clear hls
                          have hrf : r = false := by
                            cases r with
                            | false => rfl
                            | true =>
                              rcases HW.out with h | ⟨-, h⟩
                              · omega
                              · exact absurd (hr rfl) h
                          subst hrf
                          have HB5 := Lib.hid (bNext HB4.out.1 hb5)
                          clear hr hb5 k4
                          go_wp2_with fail
                          go_roundw
                          case rel => exact ⟨k + 1, by omega, by go_num, HB5.out⟩
                          case measure => simp [intOf]; omega
                        · go_wp2_with fail
                          refine Calls.mono hls ?_
                          rintro e w5 ⟨r, rfl, hr, hb5⟩
                          clear hls
                          have hrf : r = false := by
                            cases r with
                            | false => rfl
                            | true =>
                              rcases HW.out with h | ⟨-, h⟩
                              · omega
                              · exact absurd (hr rfl) h
                          subst hrf
                          have HB5 := Lib.hid (bNext HB4.out.1 hb5)
                          clear hr hb5 k4
                          go_wp2_with fail
                          go_roundw
                          case rel => exact ⟨k + 1, by omega, by go_num, HB5.out⟩
                          case measure => simp [intOf]; omega
                      · have hned : (x.total == R.total) = false := beq_eq_false_iff_ne.2 heq
                        cases mx
                        · go_wp2_with fail
                          go_roundw
                          case rel => exact ⟨k + 1, by omega, by go_num, HB4.out.1⟩
                          case measure => simp [intOf]; omega
                        · go_wp2_with fail
                          go_roundw
                          case rel => exact ⟨k + 1, by omega, by go_num, HB4.out.1⟩
                          case measure => simp [intOf]; omega
                    · cases mx with
                      | true => exact absurd (HG.out.2.1 rfl).symm hmm
                      | false =>
                        have hmt : mb = true := by
                          cases mb with
                          | true => rfl
                          | false => exact absurd rfl hmm
                        subst hmt
                        go_wp2_with fail
                        go_roundw
                        case rel => exact ⟨k + 1, by omega, by go_num, HB4.out.1⟩
                        case measure => simp [intOf]; omega
            · obtain rfl : k = M := by omega
              have hkM' : ¬ (k : Int) < wrap64 ((2 : Int) ^ NI) := by rw [hM.out]; omega
              have HB := Lib.hid (bNext H3.out.1 hbr)
              clear hbr
              go_wp2_with fail
              refine Calls.mono (wakes17_any _) ?_
              rintro e U ⟨rfl, hbU⟩
              have HBF := Lib.hid (bNext HB.out hbU)
              clear hbU
              go_wp2_with fail
              go_returns
              exact Ret.mk rfl HBF.out
        · have hb' : bx l (-1) n = false := by simpa using hb
          have hR0 : R = wy0 := by
            rw [← HR.out]
            exact best_none (by rw [HY.out.2.2.2.2.2.1]; exact hb')
          have hm0 : m6 = 0 := by rw [← HY.out.2.2.2.2.2.2.1, hR0]; rfl
          have hfn : fst l (-1) = n := by
            have h1 : ¬ ((fst l (-1) : Nat) : Int) < n := by unfold bx at hb'; simpa using hb'
            have h2 : fst l (-1) ≤ l.length := nb_le (by unfold startAt; omega)
            have h3 := HY.out.2.2.2.2.2.1
            omega
          subst hm0
          rw [hR0] at k61 k62
          simp only [wy0] at k61 k62
          rw [hfn] at hfi
          have HB := Lib.hid HY.out.1
          clear hb hb' hR0 hfn HY
          go_wp2_with fail
          refine Calls.mono hfi ?_
          rintro e Y' ⟨rfl, rfl⟩
          clear hfi
          go_wp2_with fail
          refine Calls.mono (wakes17_any _) ?_
          rintro e U ⟨rfl, hbU⟩
          have HBF := Lib.hid (bNext HB.out hbU)
          clear hbU
          go_wp2_with fail
          go_returns
          exact Ret.mk rfl HBF.out

set_option maxRecDepth 100000 in
theorem breaksLeast_walk {H : Type} {enc : TypeId × Value → H} {W : World} {base : Nat} {v0 v1 : Value} {d0 d1 : DataW H} {p0 p1 : List MemPlace}
    (k0 : Value.okWide Try.prog W .any base 22 v0) (h0 : DataW.Trod enc Try.prog W 0 (fun _ => true) true 22 v0 d0 p0)
    (k1 : Value.okWide Try.prog W .any base 24 v1) (h1 : DataW.Trod enc Try.prog W 0 (fun _ => true) true 24 v1 d1 p1)
    {ts : List TypeId} {ds : List (DataW H)} (hz : (DataW.weightsEach Try.prog (22 :: ts) (d0 :: ds)).all (· ≤ reachBytes) = true)
    : Calls Try.prog 4 #[v0, v1] W fun e W' => e = .returned (.bool true) ∧ Below W.heap.size W W' := by
  obtain ⟨A, n, c, l, rfl, hl, hn, hc, -, hsl⟩ := open_items k0 h0
  obtain ⟨sw, sh, st, sc, si, rfl, -⟩ := open_style k1 h1
  have hr := slice_room Try.underlying22 h0 hz
  rw [items_bytes] at hr
  exact breaksLeast_core (by unfold reachBytes at hr; omega) sw sh st sc si hsl
end Go.Proofs.Ytnojikbecohhfaa
