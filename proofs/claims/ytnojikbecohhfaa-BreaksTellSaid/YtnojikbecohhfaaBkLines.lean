/- The walk over BreaksLines (s10/bklines.py writes it). -/
import Derived.Test.YtnojikbecohhfaaBkLaw
import Derived.Test.YtnojikbecohhfaaBkWakes
namespace Go.Proofs.Ytnojikbecohhfaa
set_option linter.unusedSimpArgs false
set_option linter.unusedVariables false
open Go.RowKit Go.Sort

theorem path_over {l : List It} {wd tl : Int} {all : Bool} {k : Nat} {x : WY} (h : PathTo l wd tl all k x) : 0 ≤ x.over ∧ 0 ≤ x.total ∧ 100000000000 * x.over ≤ x.total := by
  induction h with
  | nil => exact ⟨by simp [wy0], by simp [wy0], by simp [wy0]⟩
  | @step i k y hp hik hk hb hm ih =>
    have hd := lineD_bd l wd tl (plcAt l i) (plcAt l k)
    unfold withW
    simp only
    split
    · rename_i h1
      have := lineD_over h1
      omega
    · omega
theorem plcs_sorted (l : List It) : (plcs l).Pairwise (· < ·) := by
  unfold plcs
  rw [List.pairwise_map]
  exact (brks_sorted l).imp (fun h => by omega)
theorem srch_len {l : List It} {wd tl : Int} {all : Bool} {k : Nat} {x : WY} (h : PathTo l wd tl all k x) : x.ends.length ≤ k := by
  induction h with
  | nil => exact Nat.le_refl _
  | @step i k y hp hik hk hb hm ih =>
    show (y.ends ++ [plcAt l k]).length ≤ k
    rw [List.length_append]
    simp only [List.length_cons, List.length_nil]
    omega
set_option maxHeartbeats 16000000 in
set_option maxRecDepth 100000 in
theorem breaksLines_core {A : Option Addr} {n c : Nat} {l : List It} (hm : n ≤ maxLen) (sw sh st sc si : Int) {w : World} (h : Sl w w.heap.size 6 A n (encs l)) :
    Calls Try.prog 5 #[.slice A n c, .agg #[.int .i64 sw, .int .i64 sh, .int .i64 st, .int .i64 sc, .int .i64 si]] w (Ret w (.bool true)) := by
  have hl := its_len h
  have hm' : (n : Int) ≤ 9223372036854775807 := by simp only [maxLen] at hm; omega
  obtain ⟨V1, hV1⟩ : ∃ q, w.alloc (.cells #[.int .i64 sw, .int .i64 sh, .int .i64 st, .int .i64 sc, .int .i64 si] 24) = q := ⟨_, rfl⟩
  have y3 : V1.heap[w.heap.size]? = some (.cells #[.int .i64 sw, .int .i64 sh, .int .i64 st, .int .i64 sc, .int .i64 si] 24) := by rw [← hV1]; exact heap_alloc_new _ _
  have hb1 : Below w.heap.size w V1 := by rw [← hV1]; exact (Below.refl _ _).alloc (Nat.le_refl _) _
  have hsi : (Try.prog.info? 24).map (·.size) = some (#[.int .i64 sw, .int .i64 sh, .int .i64 st, .int .i64 sc, .int .i64 si] : Array Value).size := sty_size
  have hfr := fair_any (c := c) hm (h.next hb1)
  have hlV := h.next hb1
  obtain ⟨b3, hb3⟩ : ∃ q, w.heap.size = q := ⟨_, rfl⟩
  rw [hb3] at y3
  have l3 := (Array.getElem?_eq_some_iff.1 y3).1
  have H1 := Lib.hid (And.intro hb1 (And.intro hlV (And.intro y3 (And.intro hl hb3))))
  have hwk := fun U (hb : Below V1.heap.size V1 U) => (wakes17_any U)
  clear h hb1 hlV hl
  go_enter Try.func5, Try.ntmps5
  go_upto_region 1 with (fail)
  try rw [hV1]
  try rw [hb3]
  clear hV1 hb3
  go_wp2_with fail
  refine Calls.mono hfr ?_
  rintro e V1' ⟨⟨t, rfl, ht⟩, rfl⟩
  clear hfr
  cases t
  · clear ht
    go_wp2_with fail
    refine Calls.mono (wakes17_any _) ?_
    rintro e U ⟨rfl, hbU⟩
    have HB := Lib.hid (bNext H1.out.1 hbU)
    clear hbU
    go_wp2_with fail
    go_returns
    exact Ret.mk rfl HB.out
  · have hn7 := ht rfl
    clear ht hm hm'
    by_cases h6 : 600 < n
    · have h6' : (600 : Int) < (n : Int) := by omega
      go_wp2_with fail
      refine Calls.mono (wakes17_any _) ?_
      rintro e U ⟨rfl, hbU⟩
      have HB := Lib.hid (bNext H1.out.1 hbU)
      clear hbU
      go_wp2_with fail
      go_returns
      exact Ret.mk rfl HB.out
    · have h6' : ¬ (600 : Int) < (n : Int) := by omega
      have hd6 : decide ((600 : Int) < (n : Int)) = false := decide_eq_false h6'
      have hbe := best_any (c := c) sw sh st sc si (by omega) V1 H1.out.2.1
      obtain ⟨R, hR⟩ : ∃ q, bestP l (cutS sw) (cutS st) = q := ⟨_, rfl⟩
      rw [hR] at hbe
      unfold BestP wyv at hbe
      have HR := Lib.hid hR
      clear hR
      go_upto_region 3 with (fail)
      refine wp_region_lit ?_
      iterate 3 (first | go_guarded | go_step)
      (try simp only [Act.put, List.setIfInBounds_toArray, List.set_cons_zero, List.set_cons_succ])
      refine wpList_load_row rfl 24 (.tmp 3) rfl _ rfl _ #[.int .i64 sw, .int .i64 sh, .int .i64 st, .int .i64 sc, .int .i64 si] (0, 0) _ H1.out.2.2.1 Try.underlying24 rfl hsi ?_
      (try simp only [Act.put, List.setIfInBounds_toArray, List.set_cons_zero, List.set_cons_succ])
      go_wp2_with fail
      refine Calls.mono hbe ?_
      rintro e V2 ⟨A2, m, c2, rfl, hiv2, -, hb2⟩
      clear hbe hsi
      have hwi : (Try.prog.info? 37).map (·.size) = some (#[Value.slice A2 m c2, .int .i64 R.total, .int .i64 R.over] : Array Value).size := wy_size
      have hwz := wyZ
      obtain ⟨Y, hY, y5, bY⟩ := newRow V2 wyz #[.slice A2 m c2, .int .i64 R.total, .int .i64 R.over] 37
      simp only
      iterate 1 (first | go_guarded | go_step | skip)
      refine wpList_new rfl hwz rfl ?_
      (try simp only [Act.put, List.setIfInBounds_toArray, List.set_cons_zero, List.set_cons_succ])
      refine wpList_store_row rfl 37 (.tmp 5) (.tmp 23) rfl _ #[.slice A2 m c2, .int .i64 R.total, .int .i64 R.over] rfl rfl _ wyz (heap_alloc_new _ _) hwi rfl (by simp [Value.oneCell']) ?_
      (try simp only [Act.put, List.setIfInBounds_toArray, List.set_cons_zero, List.set_cons_succ])
      rw [hY]
      obtain ⟨hB1, hl1, y3, hl, hwb⟩ := H1.out
      have hb2Y := bNext hb2 bY
      have hBY := bNext hB1 hb2Y
      have hlY := hl1.next hb2Y
      have y3Y := bBlk hb2Y l3 y3
      have hivY := hiv2.nxt bY
      obtain ⟨b5, hb5⟩ : ∃ q, V2.heap.size = q := ⟨_, rfl⟩
      rw [hb5] at y5
      try rw [hb5]
      have l5 := (Array.getElem?_eq_some_iff.1 y5).1
      have l3Y := (Array.getElem?_eq_some_iff.1 y3Y).1
      have k50 : Y.cell? ⟨b5, 0, none⟩ = some (.slice A2 m c2) := blk_cell y5 rfl
      have hml := hivY.len
      have HY := Lib.hid (And.intro hBY (And.intro hlY (And.intro y3Y (And.intro y5 (And.intro hivY (And.intro hl hml))))))
      clear hB1 hl1 y3 hl hwb hb2Y hBY hlY y3Y hivY hY bY hb2 hiv2 hb5 hwz hwi H1 hml hwk y5
      by_cases hb : bx l (-1) n = true
      · have hmb : ∃ mb, stepW l (cutS sw) (cutS st) (-1) wy0 true R.ends = some (R, mb) ∧ R.ends.getLast? = some (n : Int) ∧ 1 ≤ m := by
          obtain ⟨mb, g1, g2, -⟩ := best_walk (l := l) (wd := cutS sw) (tl := cutS st) (by rw [HY.out.2.2.2.2.2.1]; omega) (by rw [HY.out.2.2.2.2.2.1]; exact hb)
          rw [HR.out] at g1 g2
          refine ⟨mb, g1, by rw [g2, HY.out.2.2.2.2.2.1], ?_⟩
          cases he : R.ends with
          | nil => rw [he] at g2; cases g2
          | cons a t => have := HY.out.2.2.2.2.2.2; rw [he] at this; simp at this; omega
        obtain ⟨mb, g1, g2, hm1⟩ := hmb
        have hov : 0 ≤ R.over ∧ 0 ≤ R.total ∧ 100000000000 * R.over ≤ R.total := by
          obtain ⟨all, -, g3, -⟩ := best_path (l := l) (wd := cutS sw) (tl := cutS st) (by rw [HY.out.2.2.2.2.2.1]; omega) (by rw [HY.out.2.2.2.2.2.1]; exact hb)
          rw [HR.out] at g3
          exact path_over g3
        obtain ⟨x, hx⟩ : ∃ x, R.ends[m - 1]? = some x := ⟨_, List.getElem?_eq_getElem (by rw [HY.out.2.2.2.2.2.2]; omega)⟩
        have hxn : x = (n : Int) := by
          have : R.ends.getLast? = some x := by rw [List.getLast?_eq_getElem?, HY.out.2.2.2.2.2.2]; exact hx
          rw [g2] at this
          injection this with this
          exact this.symm
        subst hxn
        obtain ⟨bB, oB, rfl, lB, hcx⟩ := HY.out.2.2.2.2.1.entry hx
        have hm9 : m ≤ 1000000 := by
          obtain ⟨all, -, g3, -⟩ := best_path (l := l) (wd := cutS sw) (tl := cutS st) (by rw [HY.out.2.2.2.2.2.1]; omega) (by rw [HY.out.2.2.2.2.2.1]; exact hb)
          have := srch_len g3
          rw [HR.out, HY.out.2.2.2.2.2.2] at this
          have h1 := brks_len l
          have h2 := brksTo_len l l.length
          have h3 := HY.out.2.2.2.2.2.1
          omega
        have m1 : IntKind.i64.wrap ((m : Int) - 1) = ((m - 1 : Nat) : Int) := by
          rw [wrap_small _ (by omega) (by omega)]; omega
        have m2 : ((m - 1 : Nat) : Int) < (m : Int) := by omega
        have m3 : m - 1 < m := by omega
        have m4 : ¬ (m : Int) = 0 := by omega
        have hd4 : ((m : Int) == 0) = false := beq_eq_false_iff_ne.2 m4
        have HG := Lib.hid (And.intro g1 hov)
        have hbr := breaks_any (c := c) (by omega) HY.out.2.1
        clear hx g1 g2 hov
        go_wp2_with fail
        refine Calls.mono hbr ?_
        rintro e Z ⟨AP, cP, rfl, hownP, hbZ⟩
        clear hbr hcx k50
        have hivP0 : IvN Z 0 AP (brks l).length cP (plcs l) := by
          rw [ints_ivs] at hownP
          exact IvN.own (Z := Y) (by unfold plcs; rw [List.length_map]) hownP (by omega) (fun z hz => by have := plcs_rng hz; have := HY.out.2.2.2.2.2.1; omega)
        have hivP := hivP0.iv
        obtain ⟨NL, hNL⟩ : ∃ q, (brks l).length = q := ⟨_, rfl⟩
        rw [hNL] at hivP ⊢
        have hNL1 : NL ≤ n + 1 := by have h1 := brks_len l; have h2 := brksTo_len l l.length; have h3 := HY.out.2.2.2.2.2.1; omega
        have hBZ := bNext HY.out.1 hbZ
        have hlZ := HY.out.2.1.next hbZ
        have y3Z := bBlk hbZ l3Y HY.out.2.2.1
        have y5Z := bBlk hbZ l5 HY.out.2.2.2.1
        have hivZ := HY.out.2.2.2.2.1.nxt hbZ
        have sZ := hbZ.size
        have HZ := Lib.hid (And.intro hBZ (And.intro hlZ (And.intro y3Z (And.intro y5Z (And.intro hivZ (And.intro hivP (And.intro HY.out.2.2.2.2.2.1 HY.out.2.2.2.2.2.2)))))))
        have l5Z := (Array.getElem?_eq_some_iff.1 y5Z).1
        have l3Z := (Array.getElem?_eq_some_iff.1 y3Z).1
        have k50 : Z.cell? ⟨b5, 0, none⟩ = some (.slice (some ⟨bB, oB, none⟩) m c2) := blk_cell y5Z rfl
        clear hivP0 hivP hNL hBZ hlZ y3Z y5Z hivZ hownP hbZ HY
        obtain ⟨wd, hwd⟩ : ∃ q, cutS sw = q := ⟨_, rfl⟩
        obtain ⟨tl, htl⟩ : ∃ q, cutS st = q := ⟨_, rfl⟩
        have hwd2 : max 0 (min sw 10000) = wd := by rw [← hwd]; rfl
        have hwd0 : 0 ≤ wd := by omega
        have HG2 := Lib.hid (show stepW l wd tl (-1) wy0 true R.ends = some (R, mb) by rw [← hwd, ← htl]; exact HG.out.1)
        clear hwd htl
        go_wp2_with fail
        go_loopw [7, 8, 9, 10] (fun s7 s8 s9 s10 wr => ∃ (k p : Nat) (f : Int) (y : WY) (mb2 : Bool), s7 = .int .i64 p ∧ s8 = .int .i64 f ∧ s9 = .int .i64 y.over ∧ s10 = .int .i64 k ∧ k ≤ m ∧ (∀ j : Nat, j < p → ∀ v, (plcs l)[j]? = some v → v ≤ f) ∧ (0 ≤ y.over ∧ y.over ≤ k) ∧ Below Z.heap.size Z wr ∧ stepW l wd tl f y mb2 (R.ends.drop k) = some (R, mb)) (fun _ _ _ s10 _ => m - (intOf s10).toNat)
        case atStart => exact ⟨0, 0, -1, wy0, true, rfl, rfl, rfl, rfl, by omega, fun j hj => absurd hj (by omega), by simp [wy0], Below.refl _ _, by rw [List.drop_zero]; exact HG2.out⟩
        case round =>
          obtain ⟨k, p, f, y, mb2, rfl, rfl, rfl, rfl, hk, hp, hyo, hbr, hst⟩ := hrel
          have k50r := (hbr.cell (p := ⟨b5, 0, none⟩) l5Z).trans k50
          have sr := hbr.size
          by_cases hlt : k < m
          · have hi1 : (k : Int) < (m : Int) := by omega
            obtain ⟨t, ht⟩ : ∃ t, R.ends[k]? = some t := ⟨_, List.getElem?_eq_getElem (by rw [HZ.out.2.2.2.2.2.2.2]; exact hlt)⟩
            rw [drop_at ht, stepW] at hst
            have hcnd : f < t ∧ t ∈ plcs l ∧ bx l f t = true := by
              by_cases hc : f < t ∧ t ∈ plcs l ∧ bx l f t = true
              · exact hc
              · rw [if_neg hc] at hst; cases hst
            rw [if_pos hcnd] at hst
            obtain ⟨hft, htm, hbx⟩ := hcnd
            obtain ⟨q, hq, hqt⟩ := List.getElem_of_mem htm
            have hqe : (plcs l)[q]? = some t := by rw [List.getElem?_eq_getElem hq, hqt]
            have hqN : q < NL := by have := HZ.out.2.2.2.2.2.1.len; omega
            have hpq : p ≤ q := by
              rcases Nat.lt_or_ge q p with hlt2 | hge
              · have := hp q hlt2 t hqe; omega
              · exact hge
            have hsrt : ∀ j : Nat, j < q → ∀ v, (plcs l)[j]? = some v → v < t := fun j hj v hv => by
              obtain ⟨hj2, rfl⟩ := List.getElem?_eq_some_iff.1 hv
              rw [← hqt]
              exact List.pairwise_iff_getElem.1 (plcs_sorted l) j q hj2 hq hj
            obtain ⟨b', o', e', lb', hct⟩ := HZ.out.2.2.2.2.1.entry ht
            cases e'
            have ct := (hbr.cell (p := ⟨bB, oB + k, none⟩) lb').trans hct
            obtain ⟨bP, oP, rfl, lP, hcp⟩ := HZ.out.2.2.2.2.2.1.entry hqe
            have hPc : ∀ j v, (plcs l)[j]? = some v → wr.cell? ⟨bP, oP + j, none⟩ = some (.int .i64 v) := fun j v hv => by
              obtain ⟨b1, o1, e1, l1, h1⟩ := HZ.out.2.2.2.2.2.1.entry hv
              cases e1
              exact (hbr.cell (p := ⟨bP, oP + j, none⟩) lP).trans h1
            have HI := Lib.hid (And.intro hst (And.intro hp (And.intro hyo (And.intro hbr (And.intro hsrt (And.intro hPc (And.intro hbx hqe)))))))
            clear hst hp hyo hbr hsrt hPc hbx hct hcp htm hqt ht
            go_wp2_with fail
            go_loopw [7] (fun s7 wx => ∃ p2 : Nat, s7 = .int .i64 p2 ∧ p2 ≤ q ∧ Below wr.heap.size wr wx) (fun s7 _ => q - (intOf s7).toNat)
            case atStart => exact ⟨p, rfl, hpq, Below.refl _ _⟩
            case round =>
              obtain ⟨p2, rfl, hp2, hbx2⟩ := hrel
              rename World => wx
              have k5x := (hbx2.cell (p := ⟨b5, 0, none⟩) (by show b5 < _; omega)).trans k50r
              have ctx := (hbx2.cell (p := ⟨bB, oB + k, none⟩) (by show bB < _; omega)).trans ct
              have hpN : p2 < NL := by omega
              have hpN' : (p2 : Int) < (NL : Int) := by omega
              have hm6 : k < m := hlt
              obtain ⟨v, hv⟩ : ∃ v, (plcs l)[p2]? = some v := ⟨_, List.getElem?_eq_getElem (by have := HZ.out.2.2.2.2.2.1.len; omega)⟩
              have cvx := (hbx2.cell (p := ⟨bP, oP + p2, none⟩) (by show bP < _; omega)).trans (HI.out.2.2.2.2.2.1 p2 v hv)
              have lb5x : b5 < wx.heap.size := by have := hbx2.size; omega
              have lBx : bB < wx.heap.size := by have := hbx2.size; omega
              have lPx : bP < wx.heap.size := by have := hbx2.size; omega
              by_cases hpq2 : p2 < q
              · have hve : v < t := HI.out.2.2.2.2.1 p2 hpq2 v hv
                have HV := Lib.hid hbx2
                clear hv hbx2
                go_upto_region 14 with (fail)
                let S : World → Prop := fun w' => Below wx.heap.size wx w'
                have hS0 : S wx.drew := (Below.refl _ _).drew
                have q5 : ∀ w', S w' → w'.cell? ⟨b5, 0, none⟩ = some (.slice (some ⟨bB, oB, none⟩) m c2) := fun w' h => (Below.cell (show Below wx.heap.size wx w' from h) (p := ⟨b5, 0, none⟩) lb5x).trans k5x
                have qt : ∀ w', S w' → w'.cell? ⟨bB, oB + k, none⟩ = some (.int .i64 t) := fun w' h => (Below.cell (show Below wx.heap.size wx w' from h) (p := ⟨bB, oB + k, none⟩) lBx).trans ctx
                have qv : ∀ w', S w' → w'.cell? ⟨bP, oP + p2, none⟩ = some (.int .i64 v) := fun w' h => (Below.cell (show Below wx.heap.size wx w' from h) (p := ⟨bP, oP + p2, none⟩) lPx).trans cvx
                clear k5x ctx cvx
                refine wp_region_held (S := S) (by kernel_rfl) ?_
                change wpAnyH _ _ _ _ S _ _ _ wx.drew
                change At 0 _
                iterate 16 (first | (apply tkA; (case hi => (simp only [List.getElem?_toArray, List.getElem?_cons_zero, List.getElem?_cons_succ]; rfl)); (case hw => rfl); (case hy => (intro w' hSw; have h1 := q5 w' hSw; have h2 := qt w' hSw; have h3 := qv w' hSw; (try simp only [S] at hSw); go_simp; (try with_reducible rfl))); (case hs => kernel_rfl); (case hf => kernel_rfl); (case hr => kernel_rfl); (case hQ => exact fun _ _ _ h => h); (case hS => assumption); (try simp only [Act.put, List.setIfInBounds_toArray, List.set_cons_zero, List.set_cons_succ, Nat.reduceAdd])) | (apply skA; (case hi => (simp only [List.getElem?_toArray, List.getElem?_cons_zero, List.getElem?_cons_succ]; rfl)); (case hw => rfl); (case hs => kernel_rfl); (case hf => kernel_rfl); (case hr => kernel_rfl); (case hQ => exact fun _ _ _ h => h); (case hS => assumption); (try simp only [Act.put, List.setIfInBounds_toArray, List.set_cons_zero, List.set_cons_succ, Nat.reduceAdd])))
                change wpAnyH _ _ _ _ _ _ _ _ _
                refine wpAnyH_done (by kernel_rfl) ?_ _
                clear q5 qt qv
                have HV2 := Lib.hid (bNext HV.out (show Below wx.heap.size wx wx.drew from hS0))
                clear hS0
                go_wp2_with fail
                go_roundw
                case rel => exact ⟨p2 + 1, by go_num, by omega, HV2.out⟩
                case measure => simp [intOf]; omega
              · obtain rfl : p2 = q := by omega
                have hvt : v = t := by rw [HI.out.2.2.2.2.2.2.2] at hv; injection hv with hv; exact hv.symm
                rw [hvt] at cvx
                have hve : ¬ t < t := by omega
                have hve' : decide (t < t) = false := decide_eq_false hve
                have hpe : ((p2 : Int) == (NL : Int)) = false := beq_eq_false_iff_ne.2 (by omega)
                have HV := Lib.hid hbx2
                clear hv hbx2
                go_upto_region 14 with (fail)
                let S : World → Prop := fun w' => Below wx.heap.size wx w'
                have hS0 : S wx.drew := (Below.refl _ _).drew
                have q5 : ∀ w', S w' → w'.cell? ⟨b5, 0, none⟩ = some (.slice (some ⟨bB, oB, none⟩) m c2) := fun w' h => (Below.cell (show Below wx.heap.size wx w' from h) (p := ⟨b5, 0, none⟩) lb5x).trans k5x
                have qt : ∀ w', S w' → w'.cell? ⟨bB, oB + k, none⟩ = some (.int .i64 t) := fun w' h => (Below.cell (show Below wx.heap.size wx w' from h) (p := ⟨bB, oB + k, none⟩) lBx).trans ctx
                have qv : ∀ w', S w' → w'.cell? ⟨bP, oP + p2, none⟩ = some (.int .i64 t) := fun w' h => (Below.cell (show Below wx.heap.size wx w' from h) (p := ⟨bP, oP + p2, none⟩) lPx).trans cvx
                refine wp_region_held (S := S) (by kernel_rfl) ?_
                change wpAnyH _ _ _ _ S _ _ _ wx.drew
                change At 0 _
                iterate 16 (first | (apply tkA; (case hi => (simp only [List.getElem?_toArray, List.getElem?_cons_zero, List.getElem?_cons_succ]; rfl)); (case hw => rfl); (case hy => (intro w' hSw; have h1 := q5 w' hSw; have h2 := qt w' hSw; have h3 := qv w' hSw; (try simp only [S] at hSw); go_simp; (try with_reducible rfl))); (case hs => kernel_rfl); (case hf => kernel_rfl); (case hr => kernel_rfl); (case hQ => exact fun _ _ _ h => h); (case hS => assumption); (try simp only [Act.put, List.setIfInBounds_toArray, List.set_cons_zero, List.set_cons_succ, Nat.reduceAdd])) | (apply skA; (case hi => (simp only [List.getElem?_toArray, List.getElem?_cons_zero, List.getElem?_cons_succ]; rfl)); (case hw => rfl); (case hs => kernel_rfl); (case hf => kernel_rfl); (case hr => kernel_rfl); (case hQ => exact fun _ _ _ h => h); (case hS => assumption); (try simp only [Act.put, List.setIfInBounds_toArray, List.set_cons_zero, List.set_cons_succ, Nat.reduceAdd])))
                change wpAnyH _ _ _ _ _ _ _ _ _
                refine wpAnyH_done (by kernel_rfl) ?_ _
                clear q5 qt qv
                obtain ⟨X6, hX6⟩ : ∃ q, wx.drew = q := ⟨_, rfl⟩
                rw [hX6]
                have hd6 : Below wx.heap.size wx X6 := by rw [← hX6]; exact hS0
                have k56 := (hd6.cell (p := ⟨b5, 0, none⟩) lb5x).trans k5x
                have ct6 := (hd6.cell (p := ⟨bB, oB + k, none⟩) lBx).trans ctx
                have cv6 := (hd6.cell (p := ⟨bP, oP + p2, none⟩) lPx).trans cvx
                have s6 := hd6.size
                have lb56 : b5 < X6.heap.size := by omega
                have lB6 : bB < X6.heap.size := by omega
                have lP6 : bP < X6.heap.size := by omega
                have hB6 : Below Z.heap.size Z X6 := bNext HI.out.2.2.2.1 (bNext HV.out hd6)
                have hl6 := HZ.out.2.1.next hB6
                have hlt9 : ((fst l f : Nat) : Int) < t := by have := HI.out.2.2.2.2.2.2.1; unfold bx at this; simpa using this
                have hge9 : decide (t ≤ ((fst l f : Nat) : Int)) = false := decide_eq_false (by omega)
                have hng9 : ¬ t ≤ ((fst l f : Nat) : Int) := by omega
                have hfi := fun U (hb : Below X6.heap.size X6 U) => first_any (c := c) f (by omega) (hl6.next hb)
                have hli := fun U (hb : Below X6.heap.size X6 U) => line_any (c := c) f t (by omega) (hl6.next hb)
                have HJ := Lib.hid hB6
                clear hX6 hS0 hd6 k5x ctx cvx hB6 hl6
                go_upto_region 16 with (fail)
                let S : World → Prop := fun w' => Below X6.heap.size X6 w'
                have hS0 : S X6.drew := (Below.refl _ _).drew
                have q5 : ∀ w', S w' → w'.cell? ⟨b5, 0, none⟩ = some (.slice (some ⟨bB, oB, none⟩) m c2) := fun w' h => (Below.cell (show Below X6.heap.size X6 w' from h) (p := ⟨b5, 0, none⟩) lb56).trans k56
                have qt : ∀ w', S w' → w'.cell? ⟨bB, oB + k, none⟩ = some (.int .i64 t) := fun w' h => (Below.cell (show Below X6.heap.size X6 w' from h) (p := ⟨bB, oB + k, none⟩) lB6).trans ct6
                have qv : ∀ w', S w' → w'.cell? ⟨bP, oP + p2, none⟩ = some (.int .i64 t) := fun w' h => (Below.cell (show Below X6.heap.size X6 w' from h) (p := ⟨bP, oP + p2, none⟩) lP6).trans cv6
                have hbb : (t != t) = false := by simp
                refine wp_region_held (S := S) (by kernel_rfl) ?_
                change wpAnyH _ _ _ _ S _ _ _ X6.drew
                change At 0 _
                iterate 19 (first | (apply tkA; (case hi => (simp only [List.getElem?_toArray, List.getElem?_cons_zero, List.getElem?_cons_succ]; rfl)); (case hw => rfl); (case hy => (intro w' hSw; have h1 := q5 w' hSw; have h2 := qt w' hSw; have h3 := qv w' hSw; (try simp only [S] at hSw); go_simp; (try with_reducible rfl))); (case hs => kernel_rfl); (case hf => kernel_rfl); (case hr => kernel_rfl); (case hQ => exact fun _ _ _ h => h); (case hS => assumption); (try simp only [Act.put, List.setIfInBounds_toArray, List.set_cons_zero, List.set_cons_succ, Nat.reduceAdd])) | (apply skA; (case hi => (simp only [List.getElem?_toArray, List.getElem?_cons_zero, List.getElem?_cons_succ]; rfl)); (case hw => rfl); (case hs => kernel_rfl); (case hf => kernel_rfl); (case hr => kernel_rfl); (case hQ => exact fun _ _ _ h => h); (case hS => assumption); (try simp only [Act.put, List.setIfInBounds_toArray, List.set_cons_zero, List.set_cons_succ, Nat.reduceAdd])))
                change wpAnyH _ _ _ _ _ _ _ _ _
                change At 20 _
                iterate 5 (first | (apply tkA; (case hi => (simp only [List.getElem?_toArray, List.getElem?_cons_zero, List.getElem?_cons_succ]; rfl)); (case hw => rfl); (case hy => (intro w' hSw; have h1 := q5 w' hSw; have h2 := qt w' hSw; (try simp only [S] at hSw); go_simp; (try with_reducible rfl))); (case hs => kernel_rfl); (case hf => kernel_rfl); (case hr => kernel_rfl); (case hQ => exact fun _ _ _ h => h); (case hS => assumption); (try simp only [Act.put, List.setIfInBounds_toArray, List.set_cons_zero, List.set_cons_succ, Nat.reduceAdd])) | (apply skA; (case hi => (simp only [List.getElem?_toArray, List.getElem?_cons_zero, List.getElem?_cons_succ]; rfl)); (case hw => rfl); (case hs => kernel_rfl); (case hf => kernel_rfl); (case hr => kernel_rfl); (case hQ => exact fun _ _ _ h => h); (case hS => assumption); (try simp only [Act.put, List.setIfInBounds_toArray, List.set_cons_zero, List.set_cons_succ, Nat.reduceAdd])))
                change wpAnyH _ _ _ _ _ _ _ _ _
                refine wpAnyH_ready (rs := [19]) (by kernel_rfl) (by simp) (AllReadyH.cons (o := ?oo19_142) ?hoo19_142 (fun K hK => ?steponly142) AllReadyH.nil); (case hoo19_142 => (simp only [List.getElem?_toArray, List.getElem?_cons_zero, List.getElem?_cons_succ]; rfl))
                go_simp
                refine Calls.mono (hfi _ hS0) ?_
                rintro e X7 ⟨rfl, rfl⟩
                refine hK.out _ _ hS0 (fun _ => ?_)
                clear hK K hfi
                (try simp only [Act.put, List.setIfInBounds_toArray, List.set_cons_zero, List.set_cons_succ])
                change At 25 _
                iterate 2 (first | (apply tkA; (case hi => (simp only [List.getElem?_toArray, List.getElem?_cons_zero, List.getElem?_cons_succ]; rfl)); (case hw => rfl); (case hy => (intro w' hSw; (try simp only [S] at hSw); go_simp; (try with_reducible rfl))); (case hs => kernel_rfl); (case hf => kernel_rfl); (case hr => kernel_rfl); (case hQ => exact fun _ _ _ h => h); (case hS => assumption); (try simp only [Act.put, List.setIfInBounds_toArray, List.set_cons_zero, List.set_cons_succ, Nat.reduceAdd])) | (apply skA; (case hi => (simp only [List.getElem?_toArray, List.getElem?_cons_zero, List.getElem?_cons_succ]; rfl)); (case hw => rfl); (case hs => kernel_rfl); (case hf => kernel_rfl); (case hr => kernel_rfl); (case hQ => exact fun _ _ _ h => h); (case hS => assumption); (try simp only [Act.put, List.setIfInBounds_toArray, List.set_cons_zero, List.set_cons_succ, Nat.reduceAdd])))
                change wpAnyH _ _ _ _ _ _ _ _ _
                refine wpAnyH_done (by kernel_rfl) ?_ _
                clear q5 qt qv
                obtain ⟨X8, hX8⟩ : ∃ q, X6.drew = q := ⟨_, rfl⟩
                rw [hX8]
                have hd8 : Below X6.heap.size X6 X8 := by rw [← hX8]; exact hS0
                have k58 := (hd8.cell (p := ⟨b5, 0, none⟩) lb56).trans k56
                have ct8 := (hd8.cell (p := ⟨bB, oB + k, none⟩) lB6).trans ct6
                have s8 := hd8.size
                have hlb := line_bd l f t
                obtain ⟨LW, hLW⟩ : ∃ q, line l f t = q := ⟨_, rfl⟩
                have hover := over_iff (l := l) (wd := wd) (tl := tl) (f := f) (t := t) hwd0
                rw [hLW] at hover hlb
                have hl8 := hli X8 hd8
                rw [hLW] at hl8
                obtain ⟨sw1, sy1, sz1⟩ := LW
                simp only [Sm.cells] at hl8 hover hlb
                have hB8 : Below Z.heap.size Z X8 := bNext HJ.out hd8
                have HK := Lib.hid (And.intro hB8 (And.intro hover hLW))
                have hlb1 : 0 ≤ sw1 := by omega
                have hlb2 : 0 ≤ sz1 := by omega
                have hyo := HI.out.2.2.1
                clear hX8 hS0 hd8 k56 ct6 cv6 hli hover hLW hB8 HJ hlb
                go_upto_region 18 with (fail)
                go_wp2_with fail
                refine Calls.mono hl8 ?_
                rintro e X9 ⟨rfl, hb9⟩
                clear hl8
                have hsz := smZ
                obtain ⟨Y9, hY9, y11, bY9⟩ := newRow X9 #[.int .i64 0, .int .i64 0, .int .i64 0] #[.int .i64 sw1, .int .i64 sy1, .int .i64 sz1] 46
                simp only
                iterate 1 (first | go_guarded | go_step | skip)
                refine wpList_new rfl hsz rfl ?_
                (try simp only [Act.put, List.setIfInBounds_toArray, List.set_cons_zero, List.set_cons_succ])
                refine wpList_store_row rfl 46 (.tmp 11) (.tmp 108) rfl _ #[.int .i64 sw1, .int .i64 sy1, .int .i64 sz1] rfl rfl _ #[.int .i64 0, .int .i64 0, .int .i64 0] (heap_alloc_new _ _) (sm_info _ _ _) rfl (by simp [Value.oneCell']) ?_
                (try simp only [Act.put, List.setIfInBounds_toArray, List.set_cons_zero, List.set_cons_succ])
                rw [hY9]
                have hb89 := bNext hb9 bY9
                have hB9 := bNext HK.out.1 hb89
                have k59 := (hb89.cell (p := ⟨b5, 0, none⟩) (by show b5 < _; omega)).trans k58
                have ct9 := (hb89.cell (p := ⟨bB, oB + k, none⟩) (by show bB < _; omega)).trans ct8
                have c0 : Y9.cell? ⟨X9.heap.size, 0, none⟩ = some (.int .i64 sw1) := blk_cell y11 rfl
                have c2' : Y9.cell? ⟨X9.heap.size, 2, none⟩ = some (.int .i64 sz1) := blk_cell y11 rfl
                have cs0 : Y9.cell? ⟨b3, 0, none⟩ = some (.int .i64 sw) := blk_cell (bBlk hB9 l3Z HZ.out.2.2.1) rfl
                have HL := Lib.hid (And.intro hB9 trivial)
                clear hY9 hb9 bY9 hb89 hB9 k58 ct8 hsz y11
                by_cases hW : 10000 < sw1
                · go_wp2_with fail
                  refine Calls.mono (wakes17_any _) ?_
                  rintro e U ⟨rfl, hbU⟩
                  have HB2 := Lib.hid (bNext HZ.out.1 (bNext HL.out.1 hbU))
                  clear hbU
                  go_wp2_with fail
                  go_returns
                  exact Ret.mk rfl HB2.out
                · by_cases hZ1 : 10000 < sz1
                  · have hdW : decide (10000 < sw1) = false := decide_eq_false hW
                    go_wp2_with fail
                    refine Calls.mono (wakes17_any _) ?_
                    rintro e U ⟨rfl, hbU⟩
                    have HB2 := Lib.hid (bNext HZ.out.1 (bNext HL.out.1 hbU))
                    clear hbU
                    go_wp2_with fail
                    go_returns
                    exact Ret.mk rfl HB2.out
                  · have hdW : decide (10000 < sw1) = false := decide_eq_false hW
                    have hdZ : decide (10000 < sz1) = false := decide_eq_false hZ1
                    have g9 : IntKind.i64.wrap (sw1 - sz1) = sw1 - sz1 := IntWalk.i64_in _ (by omega)
                    have hov := HK.out.2.1 (by omega) (by omega)
                    by_cases ho : wd < sw1 - sz1
                    · have HO := Lib.hid (show (withW l wd tl y f t).over = y.over + 1 by unfold withW; rw [hov, decide_eq_true ho]; rfl)
                      have g10 : IntKind.i64.wrap (y.over + 1) = y.over + 1 := IntWalk.i64_in _ (by omega)
                      clear hov
                      go_wp2_with fail
                      go_roundw
                      case rel => exact ⟨k + 1, p2, t, withW l wd tl y f t, _, rfl, rfl, by rw [HO.out], by go_num, by omega, fun j hj v hv => by have := HI.out.2.2.2.2.1 j hj v hv; omega, by rw [HO.out]; omega, HL.out.1, HI.out.1⟩
                      case measure => simp [intOf]; omega
                    · have HO := Lib.hid (show (withW l wd tl y f t).over = y.over by unfold withW; rw [hov, decide_eq_false ho]; simp)
                      clear hov
                      go_wp2_with fail
                      go_roundw
                      case rel => exact ⟨k + 1, p2, t, withW l wd tl y f t, _, rfl, rfl, by rw [HO.out], by go_num, by omega, fun j hj v hv => by have := HI.out.2.2.2.2.1 j hj v hv; omega, by rw [HO.out]; omega, HL.out.1, HI.out.1⟩
                      case measure => simp [intOf]; omega
          · obtain rfl : k = m := by omega
            have hi1 : ¬ (k : Int) < (k : Int) := by omega
            have hdn : R.ends.drop k = [] := List.drop_eq_nil_of_le (by rw [HZ.out.2.2.2.2.2.2.2]; exact Nat.le_refl _)
            rw [hdn, stepW] at hst
            have hyR : y = R := by injection hst with hst; injection hst
            subst hyR
            have hov := HG.out.2
            have k51 := (hbr.cell (p := ⟨b5, 1, none⟩) l5Z).trans (show Z.cell? ⟨b5, 1, none⟩ = some (.int .i64 y.total) from blk_cell HZ.out.2.2.2.1 rfl)
            have k52 := (hbr.cell (p := ⟨b5, 2, none⟩) l5Z).trans (show Z.cell? ⟨b5, 2, none⟩ = some (.int .i64 y.over) from blk_cell HZ.out.2.2.2.1 rfl)
            have HL := Lib.hid hbr
            obtain ⟨yo, hyoe⟩ : ∃ q, y.over = q := ⟨_, rfl⟩
            obtain ⟨yt, hyte⟩ : ∃ q, y.total = q := ⟨_, rfl⟩
            rw [hyoe] at k52 hov ⊢
            rw [hyte] at k51 hov
            have HQ := Lib.hid hov
            clear hst hdn hbr hyo hp k50 hyoe hyte hov
            by_cases h0 : yo = 0
            · subst h0
              by_cases h1 : yt < 100000000000
              · have h1' : decide (yt < 100000000000) = true := decide_eq_true h1
                go_wp2_with fail
                refine Calls.mono (wakes17_any _) ?_
                rintro e U ⟨rfl, hbU⟩
                have HB2 := Lib.hid (bNext HZ.out.1 (bNext HL.out hbU))
                clear hbU
                go_wp2_with fail
                go_returns
                exact Ret.mk rfl HB2.out
              · have h1' : decide (yt < 100000000000) = false := decide_eq_false h1
                go_wp2_with fail
                refine Calls.mono (wakes17_any _) ?_
                rintro e U ⟨rfl, hbU⟩
                have HB2 := Lib.hid (bNext HZ.out.1 (bNext HL.out hbU))
                clear hbU
                go_wp2_with fail
                go_returns
                exact Ret.mk rfl HB2.out
            · have h1 : ¬ yt < 100000000000 := by have := HQ.out; omega
              have h1' : decide (yt < 100000000000) = false := decide_eq_false h1
              have h0' : (yo == 0) = false := beq_eq_false_iff_ne.2 h0
              go_wp2_with fail
              refine Calls.mono (wakes17_any _) ?_
              rintro e U ⟨rfl, hbU⟩
              have HB2 := Lib.hid (bNext HZ.out.1 (bNext HL.out hbU))
              clear hbU
              go_wp2_with fail
              go_returns
              exact Ret.mk rfl HB2.out
      · have hb' : bx l (-1) n = false := by simpa using hb
        have hR0 : R = wy0 := by
          rw [← HR.out]
          unfold bestP
          rw [HY.out.2.2.2.2.2.1, if_pos (.inr hb')]
        have hm0 : m = 0 := by rw [← HY.out.2.2.2.2.2.2, hR0]; rfl
        have hfn : fst l (-1) = n := by
          have h1 : ¬ ((fst l (-1) : Nat) : Int) < n := by unfold bx at hb'; simpa using hb'
          have h2 : fst l (-1) ≤ l.length := nb_le (by unfold startAt; omega)
          have h3 := HY.out.2.2.2.2.2.1
          omega
        subst hm0
        have hfi := first_any (c := c) (-1) (by omega) HY.out.2.1
        rw [hfn] at hfi
        have HB := Lib.hid HY.out.1
        clear hb hb' hR0 hfn HY
        go_wp2_with fail
        refine Calls.mono hfi ?_
        rintro e Y' ⟨rfl, rfl⟩
        clear hfi
        go_wp2_with fail
        refine Calls.mono (wakes17_any _) ?_
        rintro e U ⟨rfl, hbU⟩
        have HB2 := Lib.hid (bNext HB.out hbU)
        clear hbU k50
        go_wp2_with fail
        go_returns
        exact Ret.mk rfl HB2.out
end Go.Proofs.Ytnojikbecohhfaa

