/- The walk over BreaksTolerate (s10/bktol.py writes it). -/
import Derived.Test.YtnojikbecohhfaaBkLaw3
import Derived.Test.YtnojikbecohhfaaBkGood
import Derived.Test.YtnojikbecohhfaaBkLines
namespace Go.Proofs.Ytnojikbecohhfaa
set_option linter.unusedSimpArgs false
set_option linter.unusedVariables false
open Go.RowKit Go.Sort

set_option maxHeartbeats 16000000 in
set_option maxRecDepth 100000 in
theorem breaksTolerate_core {A : Option Addr} {n c : Nat} {l : List It} (hm : n ≤ maxLen) (sw sh st sc si more : Int) (hmore : 0 ≤ more ∧ more ≤ 65535) {w : World} (h : Sl w w.heap.size 6 A n (encs l)) :
    Calls Try.prog 6 #[.slice A n c, .agg #[.int .i64 sw, .int .i64 sh, .int .i64 st, .int .i64 sc, .int .i64 si], .int .u16 more] w (Ret w (.bool true)) := by
  have hl := its_len h
  have hm' : (n : Int) ≤ 9223372036854775807 := by simp only [maxLen] at hm; omega
  obtain ⟨V1, hV1⟩ : ∃ q, w.alloc (.cells #[.int .i64 sw, .int .i64 sh, .int .i64 st, .int .i64 sc, .int .i64 si] 24) = q := ⟨_, rfl⟩
  have y4 : V1.heap[w.heap.size]? = some (.cells #[.int .i64 sw, .int .i64 sh, .int .i64 st, .int .i64 sc, .int .i64 si] 24) := by rw [← hV1]; exact heap_alloc_new _ _
  have hb1 : Below w.heap.size w V1 := by rw [← hV1]; exact (Below.refl _ _).alloc (Nat.le_refl _) _
  have hsi : (Try.prog.info? 24).map (·.size) = some (#[.int .i64 sw, .int .i64 sh, .int .i64 st, .int .i64 sc, .int .i64 si] : Array Value).size := sty_size
  have hfr := fair_any (c := c) hm (h.next hb1)
  have hgd := rgood_any sw sh st sc si V1
  have hlV := h.next hb1
  obtain ⟨b4, hb4⟩ : ∃ q, w.heap.size = q := ⟨_, rfl⟩
  rw [hb4] at y4
  have l4 := (Array.getElem?_eq_some_iff.1 y4).1
  have H1 := Lib.hid (And.intro hb1 (And.intro hlV (And.intro y4 hl)))
  clear h hb1 hlV hl
  go_enter Try.func6, Try.ntmps6
  go_upto_region 1 with (fail)
  try rw [hV1]
  try rw [hb4]
  clear hV1 hb4
  go_wp2_with fail
  refine Calls.mono hfr ?_
  rintro e V1' ⟨⟨t, rfl, ht⟩, rfl⟩
  clear hfr
  cases t
  · clear ht hgd y4
    go_wp2_with fail
    refine Calls.mono (wakes17_any _) ?_
    rintro e U ⟨rfl, hbU⟩
    have HB2 := Lib.hid (bNext H1.out.1 hbU)
    clear hbU
    go_wp2_with fail
    go_returns
    exact Ret.mk rfl HB2.out
  · have hn7 := ht rfl
    clear ht hm hm'
    by_cases h3 : 300 < n
    · have h3' : (300 : Int) < (n : Int) := by omega
      clear hgd y4
      go_wp2_with fail
      refine Calls.mono (wakes17_any _) ?_
      rintro e U ⟨rfl, hbU⟩
      have HB2 := Lib.hid (bNext H1.out.1 hbU)
      clear hbU
      go_wp2_with fail
      go_returns
      exact Ret.mk rfl HB2.out
    · have h3' : ¬ (300 : Int) < (n : Int) := by omega
      have hd3 : decide ((300 : Int) < (n : Int)) = false := decide_eq_false h3'
      obtain ⟨gd, hgd0⟩ : ∃ q, goodS sw sh st sc si = q := ⟨_, rfl⟩
      rw [hgd0] at hgd
      go_wp2_with (first | (refine wpList_load_row_g (by simp [Region.wanted, yielded, Act.put]) 24 (.tmp 4) rfl _ rfl _ #[.int .i64 sw, .int .i64 sh, .int .i64 st, .int .i64 sc, .int .i64 si] (0, 0) _ y4 Try.underlying24 rfl hsi ?_) | fail)
      refine Calls.mono hgd ?_
      rintro e V2 ⟨rfl, hb2⟩
      clear hgd
      have hB2 := bNext H1.out.1 hb2
      have hl2 := H1.out.2.1.next hb2
      have y42 := bBlk hb2 l4 y4
      have HB := Lib.hid hB2
      cases gd
      · clear hb2 hB2 hl2 y42 y4
        go_wp2_with fail
        refine Calls.mono (wakes17_any _) ?_
        rintro e U ⟨rfl, hbU⟩
        have HB2 := Lib.hid (bNext HB.out hbU)
        clear hbU
        go_wp2_with fail
        go_returns
        exact Ret.mk rfl HB2.out
      · have hgs : (40 ≤ sw ∧ sw ≤ 400) ∧ (0 ≤ st ∧ st ≤ 10000) := by unfold goodS at hgd0; have := of_decide_eq_true hgd0; omega
        have e1 : cutS sw = sw := by unfold cutS cutZ; omega
        have e2 : cutS st = st := by unfold cutS cutZ; omega
        clear hgd0 hb2 y4
        have hbA := best_any (c := c) sw sh st sc si (by omega) V2 hl2
        rw [e1, e2] at hbA
        obtain ⟨RA, hRA⟩ : ∃ q, bestP l sw st = q := ⟨_, rfl⟩
        rw [hRA] at hbA
        unfold BestP wyv at hbA
        have HRA := Lib.hid hRA
        have l42 := (Array.getElem?_eq_some_iff.1 y42).1
        have H2 := Lib.hid (And.intro hB2 (And.intro hl2 (And.intro y42 H1.out.2.2.2)))
        have hwz := wyZ
        have hstz := styZ
        clear hRA hB2 hl2 H1 HB
        go_upto_region 3 with (fail)
        refine wp_region_lit ?_
        iterate 3 (first | go_guarded | go_step)
        (try simp only [Act.put, List.setIfInBounds_toArray, List.set_cons_zero, List.set_cons_succ])
        refine wpList_load_row rfl 24 (.tmp 4) rfl _ rfl _ #[.int .i64 sw, .int .i64 sh, .int .i64 st, .int .i64 sc, .int .i64 si] (0, 0) _ y42 Try.underlying24 rfl hsi ?_
        (try simp only [Act.put, List.setIfInBounds_toArray, List.set_cons_zero, List.set_cons_succ])
        clear y42
        go_wp2_with fail
        refine Calls.mono hbA ?_
        rintro e V3 ⟨A3, m3, c3, rfl, hiv3, -, hb3⟩
        clear hbA
        have hwi3 : (Try.prog.info? 37).map (·.size) = some (#[Value.slice A3 m3 c3, .int .i64 RA.total, .int .i64 RA.over] : Array Value).size := wy_size
        obtain ⟨Y3, hY3, y7, bY3⟩ := newRow V3 wyz #[.slice A3 m3 c3, .int .i64 RA.total, .int .i64 RA.over] 37
        simp only
        iterate 1 (first | go_guarded | go_step | skip)
        refine wpList_new rfl hwz rfl ?_
        (try simp only [Act.put, List.setIfInBounds_toArray, List.set_cons_zero, List.set_cons_succ])
        refine wpList_store_row rfl 37 (.tmp 7) (.tmp 30) rfl _ #[.slice A3 m3 c3, .int .i64 RA.total, .int .i64 RA.over] rfl rfl _ wyz (heap_alloc_new _ _) hwi3 rfl (by simp [Value.oneCell']) ?_
        (try simp only [Act.put, List.setIfInBounds_toArray, List.set_cons_zero, List.set_cons_succ])
        rw [hY3]
        obtain ⟨hB2, hl2, y42, hl⟩ := H2.out
        have hb23 := bNext hb3 bY3
        have hB3 := bNext hB2 hb23
        have hl3 := hl2.next hb23
        have y43 := bBlk hb23 l42 y42
        have hivA := hiv3.nxt bY3
        obtain ⟨b7, hb7⟩ : ∃ q, V3.heap.size = q := ⟨_, rfl⟩
        rw [hb7] at y7
        try rw [hb7]
        have l7 := (Array.getElem?_eq_some_iff.1 y7).1
        have l43 := (Array.getElem?_eq_some_iff.1 y43).1
        have H3 := Lib.hid (And.intro hB3 (And.intro hl3 (And.intro y43 (And.intro y7 (And.intro hivA hl)))))
        clear hB2 hl2 y42 hl hb23 hB3 hl3 y7 hivA hY3 hb3 bY3 hiv3 hb7 hwi3 H2
        obtain ⟨Y4, hY4, y8, bY4⟩ := newRow Y3 #[.int .i64 0, .int .i64 0, .int .i64 0, .int .i64 0, .int .i64 0] #[.int .i64 sw, .int .i64 sh, .int .i64 st, .int .i64 sc, .int .i64 si] 24
        go_upto_region 4 with (fail)
        refine wp_region_lit ?_
        refine wpList_load_row rfl 24 (.tmp 4) rfl _ rfl _ #[.int .i64 sw, .int .i64 sh, .int .i64 st, .int .i64 sc, .int .i64 si] (0, 0) _ y43 Try.underlying24 rfl hsi ?_
        (try simp only [Act.put, List.setIfInBounds_toArray, List.set_cons_zero, List.set_cons_succ])
        refine wpList_new rfl hstz rfl ?_
        (try simp only [Act.put, List.setIfInBounds_toArray, List.set_cons_zero, List.set_cons_succ])
        refine wpList_store_row rfl 24 (.tmp 8) (.tmp 31) rfl _ #[.int .i64 sw, .int .i64 sh, .int .i64 st, .int .i64 sc, .int .i64 si] rfl rfl _ #[.int .i64 0, .int .i64 0, .int .i64 0, .int .i64 0, .int .i64 0] (heap_alloc_new _ _) hsi rfl (by simp [Value.oneCell']) ?_
        (try simp only [Act.put, List.setIfInBounds_toArray, List.set_cons_zero, List.set_cons_succ])
        rw [hY4]
        clear y43 hY4 hstz
        obtain ⟨b8, hb8⟩ : ∃ q, Y3.heap.size = q := ⟨_, rfl⟩
        have hlt8 : b4 < b8 := by omega
        have hlt78 : b7 < b8 := by omega
        have k42 : Y4.cell? ⟨b4, 2, none⟩ = some (.int .i64 st) := blk_cell (bBlk bY4 l43 H3.out.2.2.1) rfl
        rw [hb8] at y8
        try rw [hb8]
        have g1 : IntKind.i64.wrap more = more := IntWalk.i64_in _ (by omega)
        have g2 : IntKind.i64.wrap (st + more) = st + more := IntWalk.i64_in _ (by omega)
        obtain ⟨tu, htu, htu0⟩ : ∃ tu, min 10000 (st + more) = tu ∧ (st ≤ tu ∧ 0 ≤ tu ∧ tu ≤ 10000) := ⟨_, rfl, by omega⟩
        have k82 : Y4.cell? ⟨b8, 2, none⟩ = some (.int .i64 st) := blk_cell y8 rfl
        have f82 := blk_frozen y8 2
        have HY4 := Lib.hid (And.intro y8 bY4)
        clear y8 bY4
        go_upto_region 6 with (fail)
        obtain ⟨Y5, hY5⟩ : ∃ q, Y4.setCell ⟨b8, 2, none⟩ (.int .i64 tu) = q := ⟨_, rfl⟩
        rw [hY5]
        obtain ⟨y8, bY4⟩ := HY4.out
        have y85 : Y5.heap[b8]? = some (.cells #[.int .i64 sw, .int .i64 sh, .int .i64 tu, .int .i64 sc, .int .i64 si] 24) := by rw [← hY5]; exact blk_set y8 2 _
        have b35 : Below Y3.heap.size Y3 Y5 := by rw [← hY5]; exact bY4.setCell (p := ⟨b8, 2, none⟩) (by show Y3.heap.size ≤ b8; omega) _
        obtain ⟨hB3, hl3, y43, y7, hivA, hl⟩ := H3.out
        have hB5 := bNext hB3 b35
        have hl5 := hl3.next b35
        have y45 := bBlk b35 l43 y43
        have y75 := bBlk b35 l7 y7
        have hivA5 := hivA.nxt b35
        have l85 := (Array.getElem?_eq_some_iff.1 y85).1
        have l45 := (Array.getElem?_eq_some_iff.1 y45).1
        have l75 := (Array.getElem?_eq_some_iff.1 y75).1
        have e3 : cutS tu = tu := by unfold cutS cutZ; omega
        have hbB := best_any (c := c) sw sh tu sc si (by omega) Y5 hl5
        rw [e1, e3] at hbB
        obtain ⟨RB, hRB⟩ : ∃ q, bestP l sw tu = q := ⟨_, rfl⟩
        rw [hRB] at hbB
        unfold BestP wyv at hbB
        have HRB := Lib.hid hRB
        have hsz : (Try.prog.info? 24).map (·.size) = some (#[.int .i64 sw, .int .i64 sh, .int .i64 tu, .int .i64 sc, .int .i64 si] : Array Value).size := sty_size
        have H5 := Lib.hid (And.intro hB5 (And.intro hl5 (And.intro y45 (And.intro y75 (And.intro hivA5 (And.intro hl y85))))))
        clear hY5 y8 bY4 hB3 hl3 y43 y7 hivA hl hB5 hl5 y45 y75 hivA5 b35 hRB H3 HY4 k42 k82 f82 g1 g2 htu
        refine wp_region_lit ?_
        iterate 3 (first | go_guarded | go_step)
        (try simp only [Act.put, List.setIfInBounds_toArray, List.set_cons_zero, List.set_cons_succ])
        refine wpList_load_row rfl 24 (.tmp 8) rfl _ rfl _ #[.int .i64 sw, .int .i64 sh, .int .i64 tu, .int .i64 sc, .int .i64 si] (0, 0) _ y85 Try.underlying24 rfl hsz ?_
        (try simp only [Act.put, List.setIfInBounds_toArray, List.set_cons_zero, List.set_cons_succ])
        clear y85
        go_wp2_with fail
        refine Calls.mono hbB ?_
        rintro e V6 ⟨A6, m6, c6, rfl, hiv6, -, hb6⟩
        clear hbB
        have hwi6 : (Try.prog.info? 37).map (·.size) = some (#[Value.slice A6 m6 c6, .int .i64 RB.total, .int .i64 RB.over] : Array Value).size := wy_size
        obtain ⟨Y6, hY6, y9, bY6⟩ := newRow V6 wyz #[.slice A6 m6 c6, .int .i64 RB.total, .int .i64 RB.over] 37
        simp only
        iterate 1 (first | go_guarded | go_step | skip)
        refine wpList_new rfl hwz rfl ?_
        (try simp only [Act.put, List.setIfInBounds_toArray, List.set_cons_zero, List.set_cons_succ])
        refine wpList_store_row rfl 37 (.tmp 9) (.tmp 41) rfl _ #[.slice A6 m6 c6, .int .i64 RB.total, .int .i64 RB.over] rfl rfl _ wyz (heap_alloc_new _ _) hwi6 rfl (by simp [Value.oneCell']) ?_
        (try simp only [Act.put, List.setIfInBounds_toArray, List.set_cons_zero, List.set_cons_succ])
        rw [hY6]
        obtain ⟨hB5, hl5, y45, y75, hivA5, hl, y85⟩ := H5.out
        have hb56 := bNext hb6 bY6
        have hB6 := bNext hB5 hb56
        have hl6 := hl5.next hb56
        have y46 := bBlk hb56 l45 y45
        have y76 := bBlk hb56 l75 y75
        have y86 := bBlk hb56 l85 y85
        have hivA6 := hivA5.nxt hb56
        have hivB6 := hiv6.nxt bY6
        obtain ⟨b9, hb9⟩ : ∃ q, V6.heap.size = q := ⟨_, rfl⟩
        rw [hb9] at y9
        try rw [hb9]
        have l9 := (Array.getElem?_eq_some_iff.1 y9).1
        have l46 := (Array.getElem?_eq_some_iff.1 y46).1
        have l76 := (Array.getElem?_eq_some_iff.1 y76).1
        have l86 := (Array.getElem?_eq_some_iff.1 y86).1
        have hmA := hivA6.len
        have hmB := hivB6.len
        have k70 : Y6.cell? ⟨b7, 0, none⟩ = some (.slice A3 m3 c3) := blk_cell y76 rfl
        have k90 : Y6.cell? ⟨b9, 0, none⟩ = some (.slice A6 m6 c6) := blk_cell y9 rfl
        have H6 := Lib.hid (And.intro hB6 (And.intro hl6 (And.intro y46 (And.intro y76 (And.intro y86 (And.intro hivA6 (And.intro hivB6 (And.intro y9 (And.intro hl (And.intro hmA hmB))))))))))
        clear hB5 hl5 y45 y75 hivA5 hl y85 hb56 hB6 hl6 y46 y76 y86 hivA6 hivB6 hmA hmB hY6 hb6 bY6 hiv6 hb9 y9 hwi6 hwz H5
        by_cases hb : bx l (-1) n = true
        · have hl := H6.out.2.2.2.2.2.2.2.2.1
          have hbl : bx l (-1) l.length = true := by rw [hl]; exact hb
          have hn6 : l.length ≤ 600 := by omega
          have hA1 : 1 ≤ m3 ∧ m3 ≤ 1000000 ∧ m6 ≤ 1000000 := by
            obtain ⟨_, -, g2, -⟩ := best_walk (wd := sw) (tl := st) hn6 hbl
            obtain ⟨_, -, g3, -⟩ := best_path (wd := sw) (tl := st) hn6 hbl
            obtain ⟨_, -, g4, -⟩ := best_path (wd := sw) (tl := tu) hn6 hbl
            rw [HRA.out] at g2 g3
            rw [HRB.out] at g4
            have q3 := srch_len g3
            have q4 := srch_len g4
            have h1 := brks_len l
            have h2 := brksTo_len l l.length
            have h3 := H6.out.2.2.2.2.2.2.2.2.2.1
            have h4 := H6.out.2.2.2.2.2.2.2.2.2.2
            refine ⟨?_, by omega, by omega⟩
            cases he : RA.ends with
            | nil => rw [he] at g2; cases g2
            | cons a t => rw [he] at h3; simp at h3; omega
          have hd0 : ((m3 : Int) == 0) = false := beq_eq_false_iff_ne.2 (by omega)
          have hn0 : ¬ (m3 : Int) = 0 := by omega
          have htol := tolerate (l := l) (wd := sw) (tl := st) (tl2 := tu) hn6 hbl (by omega)
          have hone := one_line (l := l) (wd := sw) (tl := st) hn6 hbl (by omega)
          rw [HRA.out, HRB.out] at htol
          rw [HRA.out, hl] at hone
          have hma := may_any (c := c) (c' := c3) sw sh st sc si (by omega) hA1.2.1 Y6 H6.out.2.1 H6.out.2.2.2.2.2.1
          rw [e1, e2] at hma
          obtain ⟨MA, hMA⟩ : ∃ q, wkM (walkP l sw st RA.ends) = q := ⟨_, rfl⟩
          rw [hMA] at hma htol
          have HT := Lib.hid (And.intro htol hone)
          have y46 := H6.out.2.2.1
          clear htol hone hMA hbl hl hb
          go_wp2_with (first | (refine wpList_load_row rfl 24 (.tmp 4) rfl _ rfl _ #[.int .i64 sw, .int .i64 sh, .int .i64 st, .int .i64 sc, .int .i64 si] (0, 0) _ y46 Try.underlying24 rfl hsi ?_) | fail)
          refine Calls.mono hma ?_
          rintro e X1 ⟨rfl, hx1⟩
          clear hma y46
          cases MA
          · have HX := Lib.hid hx1
            clear hx1
            have hli := line_any (c := c) (-1) (n : Int) (by omega) (H6.out.2.1.next HX.out)
            obtain ⟨LW, hLW⟩ : ∃ q, line l (-1) n = q := ⟨_, rfl⟩
            rw [hLW] at hli
            have HLW := Lib.hid hLW
            clear hLW
            obtain ⟨w1, y1, z1⟩ := LW
            simp only [Sm.cells] at hli
            go_upto_region 11 with (fail)
            go_wp2_with fail
            refine Calls.mono hli ?_
            rintro e X9 ⟨rfl, hx9⟩
            clear hli
            have hsm := smZ
            obtain ⟨Y9, hY9, y10, bY9⟩ := newRow X9 #[.int .i64 0, .int .i64 0, .int .i64 0] #[.int .i64 w1, .int .i64 y1, .int .i64 z1] 46
            simp only
            iterate 1 (first | go_guarded | go_step | skip)
            refine wpList_new rfl hsm rfl ?_
            (try simp only [Act.put, List.setIfInBounds_toArray, List.set_cons_zero, List.set_cons_succ])
            refine wpList_store_row rfl 46 (.tmp 10) (.tmp 76) rfl _ #[.int .i64 w1, .int .i64 y1, .int .i64 z1] rfl rfl _ #[.int .i64 0, .int .i64 0, .int .i64 0] (heap_alloc_new _ _) (sm_info _ _ _) rfl (by simp [Value.oneCell']) ?_
            (try simp only [Act.put, List.setIfInBounds_toArray, List.set_cons_zero, List.set_cons_succ])
            rw [hY9]
            have hx69 : Below Y6.heap.size Y6 Y9 := bNext HX.out (bNext hx9 bY9)
            have c0 : Y9.cell? ⟨X9.heap.size, 0, none⟩ = some (.int .i64 w1) := blk_cell y10 rfl
            have y49 := bBlk hx69 l46 H6.out.2.2.1
            have cs0 : Y9.cell? ⟨b4, 0, none⟩ = some (.int .i64 sw) := blk_cell y49 rfl
            have HB9 := Lib.hid (bNext H6.out.1 hx69)
            have HX9 := Lib.hid hx69
            clear hY9 hx9 bY9 hsm y10 hx69
            by_cases hW : w1 ≤ sw
            · have hW2 : w1 ≤ 10000 := by omega
              obtain ⟨o1, o2⟩ := HT.out.2 (by rw [HLW.out]; exact hW)
              have hX5 : Below Y9.heap.size Y9 (Y9.alloc (.cells #[.int .i64 (n : Int)] 3)) := (Below.refl _ _).alloc (Nat.le_refl _) _
              have hto := total_any (n := n) (m := 1) (c := c) (c' := 1) (bs := [(n : Int)]) sw sh st sc si (by omega) (by omega) _ (H6.out.2.1.next (bNext HX9.out hX5)) (lit_ints (l := [(n : Int)]) (heap_alloc_new Y9 _) rfl (by intro x hx; have : x = (n : Int) := (by simpa using hx); omega))
              rw [e1, e2, o1] at hto
              simp only [totT, wkY, Option.isSome_some, Option.getD_some, if_true] at hto
              have HX5 := Lib.hid hX5
              clear o1 hX5
              go_wp2_with (first | (refine wpList_load_row rfl 24 (.tmp 4) rfl _ rfl _ #[.int .i64 sw, .int .i64 sh, .int .i64 st, .int .i64 sc, .int .i64 si] (0, 0) _ y49 Try.underlying24 rfl hsi ?_) | fail)
              refine Calls.mono hto ?_
              rintro e Z ⟨rfl, hz⟩
              have hxz := bNext HX9.out (bNext HX5.out hz)
              have k7z : Z.cell? ⟨b7, 1, none⟩ = some (.int .i64 RA.total) := blk_cell (bBlk hxz l76 H6.out.2.2.2.1) rfl
              have HBZ := Lib.hid (bNext H6.out.1 hxz)
              clear hto y49 hz hxz
              go_wp2_with fail
              refine Calls.mono (wakes17_any _) ?_
              rintro e U ⟨rfl, hbU⟩
              have HB2 := Lib.hid (bNext HBZ.out hbU)
              clear hbU
              go_wp2_with fail
              go_returns
              exact Ret.mk rfl HB2.out
            · have hdW : decide (w1 ≤ sw) = false := decide_eq_false hW
              clear y49
              go_wp2_with fail
              refine Calls.mono (wakes17_any _) ?_
              rintro e U ⟨rfl, hbU⟩
              have HB2 := Lib.hid (bNext HB9.out hbU)
              clear hbU
              go_wp2_with fail
              go_returns
              exact Ret.mk rfl HB2.out
          · have hmb := may_any (c := c) (c' := c6) sw sh tu sc si (by omega) hA1.2.2 X1 (H6.out.2.1.next hx1) (H6.out.2.2.2.2.2.2.1.nxt hx1)
            rw [e1, e3, (HT.out.1 rfl).1] at hmb
            have y86 := bBlk hx1 l86 H6.out.2.2.2.2.1
            have k91 : X1.cell? ⟨b9, 0, none⟩ = some (.slice A6 m6 c6) := blk_cell (bBlk hx1 l9 H6.out.2.2.2.2.2.2.2.1) rfl
            have hle := (HT.out.1 rfl).2
            have hdl : decide (RA.total < RB.total) = false := decide_eq_false (by omega)
            have HX1 := Lib.hid hx1
            clear hx1
            go_wp2_with (first | (refine wpList_load_row_g (by simp [Region.wanted, yielded, Act.put]) 24 (.tmp 8) rfl _ rfl _ #[.int .i64 sw, .int .i64 sh, .int .i64 tu, .int .i64 sc, .int .i64 si] (0, 0) _ y86 Try.underlying24 rfl hsz ?_) | fail)
            refine Calls.mono hmb ?_
            rintro e X2 ⟨rfl, hx2⟩
            have hx12 := bNext HX1.out hx2
            have k92 : X2.cell? ⟨b9, 1, none⟩ = some (.int .i64 RB.total) := blk_cell (bBlk hx12 l9 H6.out.2.2.2.2.2.2.2.1) rfl
            have k72 : X2.cell? ⟨b7, 1, none⟩ = some (.int .i64 RA.total) := blk_cell (bBlk hx12 l76 H6.out.2.2.2.1) rfl
            have HX := Lib.hid hx12
            clear hmb y86 hx2 hx12 k91
            have hli := line_any (c := c) (-1) (n : Int) (by omega) (H6.out.2.1.next HX.out)
            obtain ⟨LW, hLW⟩ : ∃ q, line l (-1) n = q := ⟨_, rfl⟩
            rw [hLW] at hli
            have HLW := Lib.hid hLW
            clear hLW
            obtain ⟨w1, y1, z1⟩ := LW
            simp only [Sm.cells] at hli
            go_upto_region 11 with (fail)
            go_wp2_with fail
            refine Calls.mono hli ?_
            rintro e X9 ⟨rfl, hx9⟩
            clear hli
            have hsm := smZ
            obtain ⟨Y9, hY9, y10, bY9⟩ := newRow X9 #[.int .i64 0, .int .i64 0, .int .i64 0] #[.int .i64 w1, .int .i64 y1, .int .i64 z1] 46
            simp only
            iterate 1 (first | go_guarded | go_step | skip)
            refine wpList_new rfl hsm rfl ?_
            (try simp only [Act.put, List.setIfInBounds_toArray, List.set_cons_zero, List.set_cons_succ])
            refine wpList_store_row rfl 46 (.tmp 10) (.tmp 76) rfl _ #[.int .i64 w1, .int .i64 y1, .int .i64 z1] rfl rfl _ #[.int .i64 0, .int .i64 0, .int .i64 0] (heap_alloc_new _ _) (sm_info _ _ _) rfl (by simp [Value.oneCell']) ?_
            (try simp only [Act.put, List.setIfInBounds_toArray, List.set_cons_zero, List.set_cons_succ])
            rw [hY9]
            have hx69 : Below Y6.heap.size Y6 Y9 := bNext HX.out (bNext hx9 bY9)
            have c0 : Y9.cell? ⟨X9.heap.size, 0, none⟩ = some (.int .i64 w1) := blk_cell y10 rfl
            have y49 := bBlk hx69 l46 H6.out.2.2.1
            have cs0 : Y9.cell? ⟨b4, 0, none⟩ = some (.int .i64 sw) := blk_cell y49 rfl
            have HB9 := Lib.hid (bNext H6.out.1 hx69)
            have HX9 := Lib.hid hx69
            clear hY9 hx9 bY9 hsm y10 hx69
            by_cases hW : w1 ≤ sw
            · have hW2 : w1 ≤ 10000 := by omega
              obtain ⟨o1, o2⟩ := HT.out.2 (by rw [HLW.out]; exact hW)
              have hX5 : Below Y9.heap.size Y9 (Y9.alloc (.cells #[.int .i64 (n : Int)] 3)) := (Below.refl _ _).alloc (Nat.le_refl _) _
              have hto := total_any (n := n) (m := 1) (c := c) (c' := 1) (bs := [(n : Int)]) sw sh st sc si (by omega) (by omega) _ (H6.out.2.1.next (bNext HX9.out hX5)) (lit_ints (l := [(n : Int)]) (heap_alloc_new Y9 _) rfl (by intro x hx; have : x = (n : Int) := (by simpa using hx); omega))
              rw [e1, e2, o1] at hto
              simp only [totT, wkY, Option.isSome_some, Option.getD_some, if_true] at hto
              have HX5 := Lib.hid hX5
              clear o1 hX5
              go_wp2_with (first | (refine wpList_load_row rfl 24 (.tmp 4) rfl _ rfl _ #[.int .i64 sw, .int .i64 sh, .int .i64 st, .int .i64 sc, .int .i64 si] (0, 0) _ y49 Try.underlying24 rfl hsi ?_) | fail)
              refine Calls.mono hto ?_
              rintro e Z ⟨rfl, hz⟩
              have hxz := bNext HX9.out (bNext HX5.out hz)
              have k7z : Z.cell? ⟨b7, 1, none⟩ = some (.int .i64 RA.total) := blk_cell (bBlk hxz l76 H6.out.2.2.2.1) rfl
              have HBZ := Lib.hid (bNext H6.out.1 hxz)
              clear hto y49 hz hxz
              go_wp2_with fail
              refine Calls.mono (wakes17_any _) ?_
              rintro e U ⟨rfl, hbU⟩
              have HB2 := Lib.hid (bNext HBZ.out hbU)
              clear hbU
              go_wp2_with fail
              go_returns
              exact Ret.mk rfl HB2.out
            · have hdW : decide (w1 ≤ sw) = false := decide_eq_false hW
              clear y49
              go_wp2_with fail
              refine Calls.mono (wakes17_any _) ?_
              rintro e U ⟨rfl, hbU⟩
              have HB2 := Lib.hid (bNext HB9.out hbU)
              clear hbU
              go_wp2_with fail
              go_returns
              exact Ret.mk rfl HB2.out
        · have hb' : bx l (-1) n = false := by simpa using hb
          have hA0 : m3 = 0 := by
            have h1 := H6.out.2.2.2.2.2.2.2.2.2.1
            rw [← HRA.out] at h1
            unfold bestP at h1
            rw [H6.out.2.2.2.2.2.2.2.2.1, if_pos (.inr hb')] at h1
            exact h1.symm
          have hB0 : m6 = 0 := by
            have h1 := H6.out.2.2.2.2.2.2.2.2.2.2
            rw [← HRB.out] at h1
            unfold bestP at h1
            rw [H6.out.2.2.2.2.2.2.2.2.1, if_pos (.inr hb')] at h1
            exact h1.symm
          subst hA0
          subst hB0
          have HB7 := Lib.hid H6.out.1
          clear hb hb' H6
          go_wp2_with fail
          refine Calls.mono (wakes17_any _) ?_
          rintro e U ⟨rfl, hbU⟩
          have HB2 := Lib.hid (bNext HB7.out hbU)
          clear hbU
          go_wp2_with fail
          go_returns
          exact Ret.mk rfl HB2.out
end Go.Proofs.Ytnojikbecohhfaa

