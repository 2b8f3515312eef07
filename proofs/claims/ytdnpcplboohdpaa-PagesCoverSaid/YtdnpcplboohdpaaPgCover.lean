/- The walk over PagesCover. -/
import Derived.Test.YtdnpcplboohdpaaPgWakes
import Derived.Test.YtdnpcplboohdpaaPgFair
import Derived.Test.YtdnpcplboohdpaaPgLaw
namespace Go.Proofs.Ytdnpcplboohdpaa
set_option linter.unusedSimpArgs false
set_option linter.unusedVariables false
open Go.RowKit Go.ChangeShapes Go.WideShapes Go.Sort

theorem whole_len {l : List LN} {h : Int} {f : Nat} {E : List Int} {c : Int} (hw : Whole l h f E c) : f ≤ l.length → f + E.length ≤ l.length := by
  induction hw with
  | done hd => intro hf; simpa using hf
  | skip hx _ _ ih => intro _; have := (List.getElem?_eq_some_iff.1 hx).1; have := ih (by omega); omega
  | page ho _ ih =>
    intro _
    obtain ⟨h1, h2, h3, h4⟩ := pgOk_iff.1 ho
    have := ih h2
    rw [List.length_cons]
    omega
theorem drop_cons {l : List Int} {k : Nat} {x : Int} {r : List Int} (h : l.drop k = x :: r) : l[k]? = some x ∧ l.drop (k + 1) = r ∧ k < l.length := by
  have hk : k < l.length := by
    rcases Nat.lt_or_ge k l.length with h1 | h1
    · exact h1
    · rw [List.drop_of_length_le h1] at h; cases h
  rw [List.drop_eq_getElem_cons hk] at h
  injection h with h1 h2
  exact ⟨by rw [List.getElem?_eq_getElem hk, h1], h2, hk⟩
set_option maxHeartbeats 16000000 in
set_option maxRecDepth 100000 in
theorem cover_core {A : Option Addr} {n c : Nat} {l : List (LN × List PC)} {hv : Int} (w : World) (hl : RnAt w w.heap.size A n c l) (hc : c ≤ maxLen) (h0 : 0 ≤ hv) (h1 : hv < 256) :
    Calls Try.prog 5 #[.slice A n c, .int .u8 hv] w (Ret w (.bool true)) := by
  have hfair := fair_any w hl hc
  unfold FairP at hfair
  have hone := hl.one
  have hlnat := hl.ln
  obtain ⟨L, hL⟩ : ∃ q, lnsOf l = q := ⟨_, rfl⟩
  rw [hL] at hone hlnat
  obtain ⟨h, hh⟩ : ∃ h : Nat, 3 + hv % 18 = (h : Int) := ⟨(3 + hv % 18).toNat, by omega⟩
  have h3 : 3 ≤ h ∧ h ≤ 20 := by omega
  have e1 : IntKind.i64.wrap hv = hv := wrap_small _ (by omega) (by omega)
  have e2 : hv.tmod 18 = hv % 18 := Int.tmod_eq_emod_of_nonneg h0
  have e3 : IntKind.i64.wrap (hv % 18) = hv % 18 := wrap_small _ (by omega) (by omega)
  have e4 : IntKind.i64.wrap (3 + hv % 18) = h := by rw [hh]; exact wrap_small _ (by omega) (by omega)
  have HL := Lib.hid (And.intro hlnat (And.intro hone hh))
  clear hl hL hlnat hone hh hc
  go_enter Try.func5, Try.ntmps5
  go_upto_region 1 with (fail)
  go_wp2_with fail
  refine Calls.mono hfair ?_
  rintro e w1 ⟨b, rfl, -, hb1⟩
  clear hfair
  cases b with
  | false =>
    have HB := Lib.hid hb1
    clear hb1
    go_wp2_with fail
    refine Calls.mono (wakes20_any w1) ?_
    rintro e w2 ⟨rfl, hb2⟩
    go_wp2_with fail
    go_ret
    exact Ret.mk rfl (bNext HB.out hb2)
  | true =>
  by_cases hn : 300 < n
  · have hn' : (300 : Int) < (n : Int) := by omega
    have HB := Lib.hid hb1
    clear hb1
    go_wp2_with fail
    refine Calls.mono (wakes20_any w1) ?_
    rintro e w2 ⟨rfl, hb2⟩
    go_wp2_with fail
    go_ret
    exact Ret.mk rfl (bNext HB.out hb2)
  · have hn' : ¬ (300 : Int) < (n : Int) := by omega
    have hl1 := HL.out.1.nxt hb1
    have hbest := best_any (h := (h : Int)) w1 hl1 HL.out.2.1
    have hwh := best_whole (l := L) (h := (h : Int)) (by omega) (by omega) (by rw [HL.out.1.len]; omega)
    obtain ⟨BW, hBW⟩ : ∃ q, bestP L h = q := ⟨_, rfl⟩
    rw [hBW] at hbest hwh
    unfold SecP wyv at hbest
    have H1 := Lib.hid (And.intro hl1 (And.intro hb1 hwh))
    clear hl1 hb1 hwh hBW
    obtain ⟨zw, hzw⟩ : ∃ q, wyz = q := ⟨_, rfl⟩
    have hwz := wyZ
    have hz3 : wyz.size = 3 := rfl
    rw [hzw] at hwz hz3
    clear hzw
    go_upto_region 3 with (fail)
    go_upto_region 4 with (fail)
    go_wp2_with fail
    refine Calls.mono hbest ?_
    rintro e w2 ⟨A6, m6, c6, rfl, hiv, hb2⟩
    clear hbest
    obtain ⟨cw, hcw⟩ : ∃ q : Array Value, #[.slice A6 m6 c6, .int .i64 BW.total, .int .i64 0] = q := ⟨_, rfl⟩
    rw [hcw]
    have hwi : (Try.prog.info? 35).map (·.size) = some cw.size := by rw [← hcw]; exact wy_size
    have hzc : zw.size = cw.size := by rw [hz3, ← hcw]; rfl
    have hk1 : cw.all (·.oneCell') = true := by rw [← hcw]; simp [Value.oneCell']
    obtain ⟨Y, hY, yw, bY⟩ := newRow w2 zw cw 35
    have hlY := H1.out.1.nxt (hb2.trans (bY.mono hb2.size))
    have hbY := bNext H1.out.2.1 (hb2.trans (bY.mono hb2.size))
    have hivY := hiv.nxt bY
    have hm6 := hiv.len
    have hcapI := hiv.cap
    rw [← hcw] at yw
    have k0 : Y.cell? ⟨w2.heap.size, 0, none⟩ = some (.slice A6 m6 c6) := blk_cell yw rfl
    have hlt : w2.heap.size < Y.heap.size := (Array.getElem?_eq_some_iff.1 yw).1
    have hlen := H1.out.1.len
    have hm300 : m6 ≤ 301 := by
      have := whole_len H1.out.2.2 (Nat.zero_le _)
      omega
    have HY := Lib.hid (And.intro hlY (And.intro hbY (And.intro hivY (And.intro hm6 (And.intro hlen H1.out.2.2)))))
    clear hb2 hiv bY hlY hbY hivY hm6 yw hlen H1
    go_upto_region 5 with (first
      | (refine wpList_new rfl hwz rfl ?_)
      | (refine wpList_store_row rfl 35 (.tmp 6) (.tmp 26) rfl _ cw rfl rfl _ zw (heap_alloc_new _ _) hwi hzc hk1 ?_)
      | fail)
    try rw [hY]
    clear hY hcw hwi hzc hk1
    go_wp2_with fail
    go_loopw [7, 8] (fun s7 s8 wr => ∃ (f a : Nat) (cc : Int), f ≤ n ∧ a ≤ m6 ∧ s7 = .int .i64 f ∧ s8 = .int .i64 a ∧ Hid (Whole L h f (BW.ends.drop a) cc) ∧ wr = Y) (fun i _ _ => n - (intOf i).toNat)
    case atStart => exact ⟨0, 0, BW.total, by omega, by omega, rfl, rfl, Lib.hid HY.out.2.2.2.2.2, rfl⟩
    case round =>
      obtain ⟨f, a, cc, hf, ha, rfl, rfl, hW, rfl⟩ := hrel
      rename World => Z
      by_cases hfn : f < n
      · have hfn' : (f : Int) < (n : Int) := by omega
        have hf0 : (0 : Int) ≤ (f : Int) := by omega
        obtain ⟨x, hx⟩ : ∃ x, L[f]? = some x := ⟨_, List.getElem?_eq_getElem (by rw [HY.out.2.2.2.2.1]; exact hfn)⟩
        obtain ⟨b, o, rfl, hbB, hxr⟩ := HY.out.1.entry hx
        have hk := (ln_cells hxr).1
        by_cases hej : x.kind = 4
        · rw [hej] at hk
          have g1 : IntKind.i64.wrap ((f : Int) + 1) = ((f + 1 : Nat) : Int) := by rw [wrap_small _ (by omega) (by omega)]; omega
          have HX := Lib.hid (whole_ej hx (by unfold LN.ej; exact decide_eq_true hej) hW.out)
          clear hx hxr hej hW
          go_wp2_with fail
          go_roundw
          case rel => exact ⟨f + 1, a, cc, by omega, ha, by go_num, rfl, HX, by trivial⟩
          case measure => simp [intOf]; omega
        · have hej' : x.ej = false := by unfold LN.ej; exact decide_eq_false hej
          obtain ⟨t, E', c', he, -, hok, hw'⟩ := whole_pg hx hej' hW.out
          obtain ⟨g1, g2, g3, g4⟩ := pgOk_iff.1 hok
          obtain ⟨d1, d2, d3⟩ := drop_cons he
          rw [HY.out.2.2.2.2.1] at g2
          rw [HY.out.2.2.2.1] at d3
          obtain ⟨b6, o6, rfl, hb6, hx6⟩ := HY.out.2.2.1.entry d1
          have ham' : ¬ ((m6 : Int) ≤ (a : Int)) := by omega
          have ham2 : (a : Int) < (m6 : Int) := by omega
          have ha0 : (0 : Int) ≤ (a : Int) := by omega
          have q1 : ¬ (t : Int) ≤ (f : Int) := by omega
          have q2 : ¬ (n : Int) < (t : Int) := by omega
          have q3 : IntKind.i64.wrap ((t : Int) - (f : Int)) = (t : Int) - (f : Int) := wrap_small _ (by omega) (by omega)
          have q4 : ¬ (h : Int) < (t : Int) - (f : Int) := by omega
          have q5 : IntKind.i64.wrap ((a : Int) + 1) = ((a + 1 : Nat) : Int) := by rw [wrap_small _ (by omega) (by omega)]; omega
          have hne : ∀ i : Nat, f ≤ i → i < t → ∀ y, L[i]? = some y → y.kind ≠ 4 := fun i h1 h2 y hy => by
            have := ejP_before (a := f) h1 (by omega) hy
            unfold LN.ej at this
            exact of_decide_eq_false this
          rw [← d2] at hw'
          have HX := Lib.hid (And.intro hw' hne)
          clear hx hxr hej' hW he hok g3 g4 d1 d2 hw' hne
          go_upto_region 14 with (fail)
          go_wp2_with fail
          rename World => Zo
          go_loopw [10] (fun s10 wr => ∃ i : Nat, f ≤ i ∧ i ≤ t ∧ s10 = .int .i64 i ∧ wr = Zo) (fun i _ => t - (intOf i).toNat)
          case atStart => exact ⟨f, by omega, by omega, rfl, rfl⟩
          case round =>
            obtain ⟨i, hi1, hi2, rfl, rfl⟩ := hrel
            by_cases hit : i < t
            · have hit' : (i : Int) < (t : Int) := by omega
              obtain ⟨y, hy⟩ : ∃ y, L[i]? = some y := ⟨_, List.getElem?_eq_getElem (by rw [HY.out.2.2.2.2.1]; omega)⟩
              obtain ⟨b', o', hA, hbB', hyr⟩ := HY.out.1.entry hy
              cases hA
              have hky := (ln_cells hyr).1
              have hk4 := HX.out.2 i hi1 hit y hy
              have hin : (i : Int) < (n : Int) := by omega
              have hi0 : (0 : Int) ≤ (i : Int) := by omega
              have g1 : IntKind.i64.wrap ((i : Int) + 1) = ((i + 1 : Nat) : Int) := by rw [wrap_small _ (by omega) (by omega)]; omega
              clear hy hyr
              go_wp2_with fail
              go_roundw
              case rel => exact ⟨i + 1, by omega, by omega, by go_num, by trivial⟩
              case measure => simp [intOf]; omega
            · have hit' : ¬ (i : Int) < (t : Int) := by omega
              go_wp2_with fail
              go_roundw
              case rel => exact ⟨t, a + 1, c', by omega, by omega, rfl, by go_num, Lib.hid HX.out.1, by trivial⟩
              case measure => simp [intOf]; omega
      · obtain rfl : f = n := by omega
        have hfn' : ¬ (f : Int) < (f : Int) := by omega
        have hend := (whole_end (by rw [HY.out.2.2.2.2.1]; exact Nat.le_refl _) hW.out).1
        have hma : a = m6 := by
          have := congrArg List.length hend
          rw [List.length_drop, HY.out.2.2.2.1] at this
          simp at this
          omega
        subst hma
        have HB := Lib.hid HY.out.2.1
        clear hend hW
        go_wp2_with fail
        refine Calls.mono (wakes20_any Z) ?_
        rintro e w2 ⟨rfl, hb2⟩
        go_wp2_with fail
        go_ret
        exact Ret.mk (vbool (by simp)) (bNext HB.out hb2)
set_option maxRecDepth 100000 in
theorem pagesCover_walk {H : Type} {enc : TypeId × Value → H} {W : World} {base : Nat} {v0 v1 : Value} {d0 d1 : DataW H} {p0 p1 : List MemPlace}
    (k0 : Value.okWide Try.prog W .any base 22 v0) (h0 : DataW.Trod enc Try.prog W 0 (fun _ => true) true 22 v0 d0 p0)
    (k1 : Value.okWide Try.prog W .any base 5 v1) (h1 : DataW.Trod enc Try.prog W 0 (fun _ => true) true 5 v1 d1 p1)
    : Calls Try.prog 5 #[v0, v1] W fun e W' => e = .returned (.bool true) ∧ Below W.heap.size W W' := by
  obtain ⟨A, n, c, l, rfl, hl, hcm⟩ := open_lines k0 h0
  obtain ⟨zb, rfl, _, _, wb⟩ := open_int Try.underlying5 k1 h1
  have hb := wf_u8 wb
  exact cover_core W hl hcm hb.1 (by omega)
end Go.Proofs.Ytdnpcplboohdpaa
