/- The walk over PagesLeast. -/
import Derived.Test.YtdnpcplboohdpaaPgWakes
import Derived.Test.YtdnpcplboohdpaaPgFair
import Derived.Test.YtdnpcplboohdpaaPgTot
namespace Go.Proofs.Ytdnpcplboohdpaa
set_option linter.unusedSimpArgs false
set_option linter.unusedVariables false
open Go.RowKit Go.ChangeShapes Go.WideShapes Go.Sort

attribute [-go_sem] Builtin.append_
set_option maxHeartbeats 16000000 in
set_option maxRecDepth 100000 in
theorem least_core {A : Option Addr} {n c : Nat} {l : List (LN × List PC)} {hv : Int} (w : World) (hl : RnAt w w.heap.size A n c l) (hc : c ≤ maxLen) (h0 : 0 ≤ hv) (h1 : hv < 256) :
    Calls Try.prog 4 #[.slice A n c, .int .u8 hv] w (Ret w (.bool true)) := by
  have hfair := fair_any w hl hc
  unfold FairP at hfair
  have hone := hl.one
  have hlnat := hl.ln
  obtain ⟨L, hL⟩ : ∃ q, lnsOf l = q := ⟨_, rfl⟩
  rw [hL] at hone hlnat
  obtain ⟨h, hh⟩ : ∃ h : Nat, 3 + hv % 4 = (h : Int) := ⟨(3 + hv % 4).toNat, by omega⟩
  have h3 : 3 ≤ h ∧ h ≤ 20 := by omega
  have e1 : IntKind.i64.wrap hv = hv := wrap_small _ (by omega) (by omega)
  have e2 : hv.tmod 4 = hv % 4 := Int.tmod_eq_emod_of_nonneg h0
  have e3 : IntKind.i64.wrap (hv % 4) = hv % 4 := wrap_small _ (by omega) (by omega)
  have e4 : IntKind.i64.wrap (3 + hv % 4) = h := by rw [hh]; exact wrap_small _ (by omega) (by omega)
  have HL := Lib.hid (And.intro hlnat (And.intro hone hh))
  clear hl hL hlnat hone hh hc
  go_enter Try.func4, Try.ntmps4
  go_upto_region 1 with (fail)
  go_wp2_with fail
  refine Calls.mono hfair ?_
  rintro e w1 ⟨b, rfl, -, hb1⟩
  clear hfair
  cases b with
  | false =>
    have HB := Lib.hid hb1
    clear hb1
    go_wp2_with fail
    refine Calls.mono (wakes20_any w1) ?_
    rintro e w2 ⟨rfl, hb2⟩
    go_wp2_with fail
    go_ret
    exact Ret.mk rfl (bNext HB.out hb2)
  | true =>
  by_cases hn : 11 < n
  · have hn' : (11 : Int) < (n : Int) := by omega
    have HB := Lib.hid hb1
    clear hb1
    go_wp2_with fail
    refine Calls.mono (wakes20_any w1) ?_
    rintro e w2 ⟨rfl, hb2⟩
    go_wp2_with fail
    go_ret
    exact Ret.mk rfl (bNext HB.out hb2)
  · have hn' : ¬ (11 : Int) < (n : Int) := by omega
    have hl1 := HL.out.1.nxt hb1
    have hbest := best_any (h := (h : Int)) w1 hl1 HL.out.2.1
    have hwh := best_whole (l := L) (h := (h : Int)) (by omega) (by omega) (by rw [HL.out.1.len]; omega)
    have hle := fun E c => best_least (l := L) (h := (h : Int)) (E := E) (c := c) (by omega) (by omega) (by rw [HL.out.1.len]; omega)
    obtain ⟨BW, hBW⟩ : ∃ q, bestP L h = q := ⟨_, rfl⟩
    rw [hBW] at hbest hwh
    simp only [hBW] at hle
    unfold SecP wyv at hbest
    have H1 := Lib.hid (And.intro hl1 (And.intro hb1 (And.intro hwh hle)))
    clear hl1 hb1 hwh hBW hle
    obtain ⟨zw, hzw⟩ : ∃ q, wyz = q := ⟨_, rfl⟩
    have hwz := wyZ
    have hz3 : wyz.size = 3 := rfl
    rw [hzw] at hwz hz3
    clear hzw
    go_upto_region 3 with (fail)
    go_upto_region 4 with (fail)
    go_wp2_with fail
    refine Calls.mono hbest ?_
    rintro e w2 ⟨A6, m6, c6, rfl, hiv, hb2⟩
    clear hbest
    obtain ⟨cw, hcw⟩ : ∃ q : Array Value, #[.slice A6 m6 c6, .int .i64 BW.total, .int .i64 0] = q := ⟨_, rfl⟩
    rw [hcw]
    have hwi : (Try.prog.info? 35).map (·.size) = some cw.size := by rw [← hcw]; exact wy_size
    have hzc : zw.size = cw.size := by rw [hz3, ← hcw]; rfl
    have hk1 : cw.all (·.oneCell') = true := by rw [← hcw]; simp [Value.oneCell']
    obtain ⟨Y, hY, yw, bY⟩ := newRow w2 zw cw 35
    have hlY := H1.out.1.nxt (hb2.trans (bY.mono hb2.size))
    have hbY := bNext H1.out.2.1 (hb2.trans (bY.mono hb2.size))
    have hivY := hiv.nxt bY
    have hm6 := hiv.len
    rw [← hcw] at yw
    have k0 : Y.cell? ⟨w2.heap.size, 0, none⟩ = some (.slice A6 m6 c6) := blk_cell yw rfl
    have k1 : Y.cell? ⟨w2.heap.size, 1, none⟩ = some (.int .i64 BW.total) := blk_cell yw rfl
    have k2 : Y.cell? ⟨w2.heap.size, 2, none⟩ = some (.int .i64 0) := blk_cell yw rfl
    have hlt : w2.heap.size < Y.heap.size := (Array.getElem?_eq_some_iff.1 yw).1
    have hlen := H1.out.1.len
    have hm300 : m6 ≤ 301 := by
      have := whole_lenT H1.out.2.2.1 (Nat.zero_le _)
      omega
    have HY := Lib.hid (And.intro hlY (And.intro hbY (And.intro hivY (And.intro hm6 (And.intro hlen (And.intro H1.out.2.2.1 (And.intro H1.out.2.2.2 (And.intro k0 (And.intro k1 k2)))))))))
    clear hb2 hiv bY hlY hbY hivY hm6 yw hlen H1 k0 k1 k2
    obtain ⟨D, hD⟩ : ∃ q, w2.heap.size = q := ⟨_, rfl⟩
    rw [hD] at HY hlt
    go_upto_region 5 with (first
      | (refine wpList_new rfl hwz rfl ?_)
      | (refine wpList_store_row rfl 35 (.tmp 6) (.tmp 29) rfl _ cw rfl rfl _ zw (heap_alloc_new _ _) hwi hzc hk1 ?_)
      | fail)
    try rw [hY]
    try rw [hD]
    clear hY hcw hwi hzc hk1 hD
    go_wp2_with fail
    obtain ⟨M, hM, hM2⟩ : ∃ M : Nat, Hid (wrap64 ((2 : Int) ^ n) = (M : Int)) ∧ M ≤ 2048 := by
      have h2 : 2 ^ n ≤ 2 ^ 11 := Nat.pow_le_pow_right (by omega) (by omega)
      obtain ⟨q, hq⟩ : ∃ q, 2 ^ n = q := ⟨_, rfl⟩
      rw [hq] at h2
      have : ((2 : Int) ^ n) = (q : Int) := by rw [← hq]; simp
      refine ⟨q, Lib.hid ?_, by omega⟩
      rw [this]
      exact IntWalk.wrap64_in _ ⟨by omega, by omega⟩
    go_loopw [7] (fun s7 wr => ∃ (k : Nat), k ≤ M ∧ s7 = .int .i64 k ∧ Below Y.heap.size Y wr) (fun i _ => M - (intOf i).toNat)
    case atStart => exact ⟨0, by omega, rfl, Below.refl _ _⟩
    case round =>
      obtain ⟨k, hk, rfl, hbr⟩ := hrel
      have kc0 := (hbr.cell (p := ⟨D, 0, none⟩) hlt).trans HY.out.2.2.2.2.2.2.2.1
      have kc1 := (hbr.cell (p := ⟨D, 1, none⟩) hlt).trans HY.out.2.2.2.2.2.2.2.2.1
      have kc2 := (hbr.cell (p := ⟨D, 2, none⟩) hlt).trans HY.out.2.2.2.2.2.2.2.2.2
      have hsz := hbr.size
      by_cases hkM : k < M
      · have hkM' : (k : Int) < wrap64 ((2 : Int) ^ n) := by rw [hM.out]; omega
        have HB := Lib.hid hbr
        clear hbr
        go_upto_region 9 with (fail)
        go_wp2_with fail
        rename World => Zo
        go_loopw [8, 9] (fun s8 s9 wr => ∃ (i m : Nat) (A' : Option Addr) (c' : Nat) (E : List Int), i ≤ n ∧ m ≤ i ∧ s8 = .slice A' m c' ∧ s9 = .int .i64 i ∧ wr.ownsRow Zo.heap.size 3 1 (.slice A' m c') m (ivs E) ∧ (∀ z ∈ E, 0 ≤ z ∧ z ≤ 11) ∧ Below Zo.heap.size Zo wr) (fun _ i _ => n - (intOf i).toNat)
        case atStart => exact ⟨0, 0, none, 0, [], by omega, by omega, rfl, rfl, World.ownsRow_nil _ _ _ _, by simp, Below.refl _ _⟩
        case round =>
          obtain ⟨i, m, A', c', E, hi, hm, rfl, rfl, hown, hE, hbi⟩ := hrel
          by_cases hin : i < n
          · have hin' : (i : Int) < (n : Int) := by omega
            have hi0 : (0 : Int) ≤ (i : Int) := by omega
            have g1 : IntKind.i64.wrap ((i : Int) + 1) = ((i + 1 : Nat) : Int) := by rw [wrap_small _ (by omega) (by omega)]; omega
            go_upto_if 49 with (fail)
            generalize (bits BinOp.and IntKind.i64 ((k : Int) / 2 ^ i) 1 == 1) = bb
            cases bb
            · have HO := Lib.hid (And.intro hown (And.intro hE hbi))
              clear hown hE hbi
              go_wp2_with fail
              go_roundw
              case rel => exact ⟨i + 1, m, A', c', E, by omega, by omega, rfl, by go_num, HO.out.1, HO.out.2.1, HO.out.2.2⟩
              case measure => simp [intOf]; omega
            · go_upto_region 13 with (fail)
              refine wp_region_lit ?_
              iterate 9 (first | go_guarded | go_step)
              refine wpList_slice rfl 33 1 #[(0, .tmp 52)] rfl (by simp only [List.map_toArray, List.map_cons, List.map_nil]; exact ints1 _ wr) ?_
              (try simp only [Act.put, List.setIfInBounds_toArray, List.set_cons_zero, List.set_cons_succ])
              refine wpList_app _ rfl (.tmp 50) (.tmp 53) 33 rfl (base := Zo.heap.size) Try.underlying33 elemI rfl (hown.alloc _) rfl (Sl.new (sz := 1) (n := 1) (heap_alloc_new _ _) rfl) (one_ivs [((i + 1 : Nat) : Int)]) (by simp only [maxLen]; omega) (by omega) (by have := hbi.size; simp; omega) ?_
              intro A38 c38 w38 hown38 hg38 hb38 hat38
              have hb2 := (hbi.alloc hbi.size (.cells #[.int .i64 ((i + 1 : Nat) : Int)] 3)).trans hb38
              have hown2 : w38.ownsRow Zo.heap.size 3 1 (.slice A38 (m + 1) c38) (m + 1) (ivs (E ++ [((i + 1 : Nat) : Int)])) := by rw [ivs_append]; exact hown38
              have hE2 : ∀ z ∈ E ++ [((i + 1 : Nat) : Int)], 0 ≤ z ∧ z ≤ 11 := fun z hz => by
                rcases List.mem_append.1 hz with hz | hz
                · exact hE z hz
                · rw [List.mem_singleton.1 hz]; omega
              have HR := Lib.hid (And.intro hown2 (And.intro hE2 hb2))
              clear hown38 hg38 hb38 hat38 hb2 hown hbi hE hown2 hE2
              (try simp only [Act.put, List.setIfInBounds_toArray, List.set_cons_zero, List.set_cons_succ])
              go_wp2_with fail
              go_roundw
              case rel => exact ⟨i + 1, m + 1, A38, c38, _, by omega, by omega, rfl, by go_num, HR.out.1, HR.out.2.1, HR.out.2.2⟩
              case measure => simp [intOf]; omega
          · obtain rfl : i = n := by omega
            have hin' : ¬ (i : Int) < (i : Int) := by omega
            have hlen : E.length = m := by have := (Sl.of_own hown).len; rw [ivs_len] at this; omega
            obtain ⟨_, _, e', hcap, -⟩ := own_form hown
            cases e'
            have hiv : IvAt wr wr.heap.size A' m c' E := ⟨fun z hz => by have := hE z hz; omega, hlen, Sl.of_own hown, hcap⟩
            have hbY := bNext HB.out hbi
            have htot := total_any (h := (h : Int)) wr (HY.out.1.nxt hbY) HL.out.2.1 hiv (by omega) (by omega) (by omega)
            have htw := fun m' => tot_of (l := L) (h := (h : Int)) E 0 0 m' (by omega)
            obtain ⟨⟨rn, rb⟩, hR⟩ : ∃ q, totE L (h : Int) 0 E 0 = q := ⟨_, rfl⟩
            rw [hR] at htot
            simp only [hR] at htw
            have HI := Lib.hid (And.intro hiv (And.intro hbY htw))
            clear hiv hbY htw hown hE hbi hR hlen hcap
            go_upto_region 14 with (fail)
            go_wp2_with fail
            refine Calls.mono htot ?_
            rintro e w3 ⟨rfl, hb3⟩
            clear htot
            have hbY3 := bNext HI.out.2.1 hb3
            have c0 := (hbY3.cell (p := ⟨D, 0, none⟩) hlt).trans HY.out.2.2.2.2.2.2.2.1
            have c1 := (hbY3.cell (p := ⟨D, 1, none⟩) hlt).trans HY.out.2.2.2.2.2.2.2.2.1
            have hD3 : D < w3.heap.size := by have := hbY3.size; omega
            have g1 : IntKind.i64.wrap ((k : Int) + 1) = ((k + 1 : Nat) : Int) := by rw [wrap_small _ (by omega) (by omega)]; omega
            have HB3 := Lib.hid (And.intro hbY3 hb3)
            clear hbY3 hb3 kc0 kc1 kc2
            cases rb with
            | false =>
              clear c0 c1
              go_wp2_with fail
              go_roundw
              case rel => exact ⟨k + 1, by omega, by go_num, HB3.out.1⟩
              case measure => simp [intOf]; omega
            | true =>
              have hw := HI.out.2.2 rn rfl
              rw [Int.sub_zero] at hw
              have hle := HY.out.2.2.2.2.2.2.1 E rn hw
              have hno : ¬ rn < BW.total := by
                rcases hle with h | ⟨h, -⟩ <;> simp only at h <;> omega
              have hle2 := Lib.hid hle
              clear hw hle
              by_cases heq : rn = BW.total
              · have hls := lesser_any w3 (HI.out.1.nxt HB3.out.2) (HY.out.2.2.1.nxt HB3.out.1) (by omega) (by omega)
                have heqH := Lib.hid heq
                subst heq
                unfold LessP at hls
                go_upto_region 16 with (fail)
                go_wp2_with fail
                refine Calls.mono hls ?_
                rintro e w4 ⟨r, rfl, hr, hb4⟩
                clear hls
                have hrf : r = false := by
                  cases r with
                  | false => rfl
                  | true =>
                    rcases hle2.out with h | ⟨-, h⟩
                    · simp only at h; omega
                    · exact absurd (hr rfl) h
                subst hrf
                have HB4 := Lib.hid (bNext HB3.out.1 hb4)
                clear hr hb4 c0 c1
                go_wp2_with fail
                go_roundw
                case rel => exact ⟨k + 1, by omega, by go_num, HB4.out⟩
                case measure => simp [intOf]; omega
              · go_wp2_with fail
                go_roundw
                case rel => exact ⟨k + 1, by omega, by go_num, HB3.out.1⟩
                case measure => simp [intOf]; omega
      · obtain rfl : k = M := by omega
        have hkM' : ¬ (k : Int) < wrap64 ((2 : Int) ^ n) := by rw [hM.out]; omega
        have htot := total_any (h := (h : Int)) wr (HY.out.1.nxt hbr) HL.out.2.1 (HY.out.2.2.1.nxt hbr) (by omega) (by omega) (by omega)
        have hof := of_tot HY.out.2.2.2.2.2.1 (Nat.zero_le _) 0
        rw [hof, Int.zero_add] at htot
        have HB := Lib.hid hbr
        clear hbr hof
        go_upto_region 18 with (fail)
        go_wp2_with fail
        refine Calls.mono htot ?_
        rintro e w3 ⟨rfl, hb3⟩
        clear htot
        have hbY3 := bNext HB.out hb3
        have c1 := (hbY3.cell (p := ⟨D, 1, none⟩) hlt).trans HY.out.2.2.2.2.2.2.2.2.1
        have c2 := (hbY3.cell (p := ⟨D, 2, none⟩) hlt).trans HY.out.2.2.2.2.2.2.2.2.2
        have hD3 : D < w3.heap.size := by have := hbY3.size; omega
        have HB3 := Lib.hid hbY3
        clear hbY3 hb3 kc0 kc1 kc2
        go_wp2_with fail
        refine Calls.mono (wakes20_any w3) ?_
        rintro e w4 ⟨rfl, hb4⟩
        have HB4 := Lib.hid (bNext HY.out.2.1 (bNext HB3.out hb4))
        clear hb4
        go_wp2_with fail
        go_ret
        exact Ret.mk (vbool (by simp)) HB4.out
set_option maxRecDepth 100000 in
theorem pagesLeast_walk {H : Type} {enc : TypeId × Value → H} {W : World} {base : Nat} {v0 v1 : Value} {d0 d1 : DataW H} {p0 p1 : List MemPlace}
    (k0 : Value.okWide Try.prog W .any base 22 v0) (h0 : DataW.Trod enc Try.prog W 0 (fun _ => true) true 22 v0 d0 p0)
    (k1 : Value.okWide Try.prog W .any base 5 v1) (h1 : DataW.Trod enc Try.prog W 0 (fun _ => true) true 5 v1 d1 p1)
    : Calls Try.prog 4 #[v0, v1] W fun e W' => e = .returned (.bool true) ∧ Below W.heap.size W W' := by
  obtain ⟨A, n, c, l, rfl, hl, hcm⟩ := open_lines k0 h0
  obtain ⟨zb, rfl, _, _, wb⟩ := open_int Try.underlying5 k1 h1
  have hb := wf_u8 wb
  exact least_core W hl hcm hb.1 (by omega)
end Go.Proofs.Ytdnpcplboohdpaa
