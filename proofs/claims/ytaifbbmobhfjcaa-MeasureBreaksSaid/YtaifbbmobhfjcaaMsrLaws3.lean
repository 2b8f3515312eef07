/- The statements of layer 16: MeasureBreaks. -/
import Derived.Test.YtaifbbmobhfjcaaMsrLaws
import Derived.Deep.CutRange
namespace Go.Proofs.Ytaifbbmobhfjcaa
set_option linter.unusedSimpArgs false
set_option linter.unusedVariables false
open Go.RowKit Go.ChangeShapes Go.WideShapes

theorem pl_pos {y : Int} : 0 < pl y ↔ 0 < y ∧ y ≤ 10000 := by unfold pl; split <;> omega

set_option maxHeartbeats 4000000 in
set_option maxRecDepth 100000 in
theorem measureBreaks_core {A : Option Addr} {n c : Nat} {l : List It} (hc : n ≤ c) (hm : c ≤ maxLen) {w : World} (h : Sl w w.heap.size 6 A n (encs l)) :
    Calls Try.prog 8 #[.slice A n c] w (Ret w (.bool true)) := by
  have hl := its_len h
  go_enter Try.func8, Try.ntmps8
  go_wp2_with fail
  refine (fair_any (by omega) h).mono ?_
  rintro e w' ⟨⟨t, rfl, ht⟩, rfl⟩
  cases t
  · go_wp2_with fail
    refine (wakes16_any _).mono ?_
    rintro e w1 ⟨rfl, hb⟩
    go_wp2
    go_ret
    exact Ret.mk rfl hb
  · have h700 : n ≤ 700 := ht rfl
    clear ht
    go_wp2_with fail
    refine (breaks_any (by omega) h).mono ?_
    rintro e w1 ⟨A1, c1, rfl, hown1, hb1⟩
    have hz1 := hb1.size
    have h1 := h.next hb1
    have hs1 := Sl.of_own hown1
    obtain ⟨A1', c1', he1, hc1⟩ := own_form hown1
    injection he1 with e1 e2 e3
    subst e1 e3
    have hlast := brks_last l
    have hlen := brks_len l
    have hT := brksTo_len l n
    have hat := fun i hi => brks_at (l := l) (i := i) hi
    have hmo := fun k hk => brksTo_mono l (k := k) (n := n) hk
    rw [hl] at hlast hlen
    obtain ⟨N, hN⟩ : ∃ N, (brks l).length = N := ⟨_, rfl⟩
    rw [hN] at hlast hlen hs1 hc1
    simp only [hN]
    obtain ⟨g, og, rfl, hg, hr⟩ := hs1.at_ (by omega)
    have b0 : w1.cell? ⟨g, og + (N - 1), none⟩ = some (.int .i64 n) := hr (N - 1) _ (by simp [ints, hlast])
    have hbat : ∀ i, i < n → mayB l i = true → w1.cell? ⟨g, og + (brksTo l i).length, none⟩ = some (.int .i64 i) := fun i hi hmy => hr _ _ (by simp [ints, hat i (by omega) hmy])
    have HB := Lib.hid hbat
    have HM := Lib.hid hmo
    have HLEN := Lib.hid hlen
    have n0 : (0 : Int) < N := by omega
    have n2 : (N : Int) ≤ 701 := by omega
    have n3 : N ≤ 701 := by omega
    have n4 : 0 < N := by omega
    have n1 : ((N : Int) == 0) = false := by
      have : N ≠ 0 := by omega
      simpa using this
    clear hlast hat hbat hmo hr hs1 hown1 hN
    have HT := Lib.hid hT
    clear hT hlen
    go_wp2
    clear b0
    go_loopw [4, 5] (fun at_ i wr => ∃ k : Nat, at_ = .int .i64 (brksTo l k).length ∧ i = .int .i64 k ∧ k ≤ n ∧ Below w1.heap.size w1 wr) (fun _ i _ => n - (intOf i).toNat)
    case atStart => exact ⟨0, rfl, rfl, by omega, Below.refl _ _⟩
    case round =>
      obtain ⟨k, rfl, rfl, hk, hbr⟩ := hrel
      have hzr := hbr.size
      have hkN : (brksTo l k).length < N := by
        have e1 := HM.out k hk
        have e2 := HLEN.out
        omega
      by_cases hlt : k < n
      · obtain ⟨x, hx⟩ := get_some (l := l) (k := k) (by omega)
        have hr1 := h1.below hbr
        obtain ⟨b, o, rfl, hb, c0, c1, c2, c3, c4, c5⟩ := its_cells hr1 hx
        have hbl : b < wr.heap.size := by omega
        go_upto_region 11 with (fail)
        generalize hX : wr.alloc _ = X
        have hbX : Below w1.heap.size w1 X := by rw [← hX]; exact hbr.alloc hzr _
        have bx : X.heap[wr.heap.size]? = some (.cells #[.int .i64 x.kind, .int .i64 x.w, .int .i64 x.y, .int .i64 x.z, .int .i64 x.cost, .string x.text] 51) := by rw [← hX]; exact heap_alloc_new _ _
        clear hX c0 c1 c2 c3 c4 c5 hr1 hbr
        have hX := h1.below hbX
        have d0 := blk_cell bx (k := 0) rfl
        have d2 := blk_cell bx (k := 2) rfl
        clear bx
        obtain ⟨t, htt⟩ : ∃ t, mayB l k = t := ⟨_, rfl⟩
        have HMY := Lib.hid htt
        clear htt
        go_cut [7] from 40 to 70 (fun s7 wx => s7 = .bool t ∧ wx = X)
        case first =>
          by_cases k3 : x.kind = 3
          · obtain rfl : t = true := HMY.out.symm.trans (mayB_pen hx k3)
            rw [k3] at d0
            clear k3
            go_wp2_with fail
            go_meet
            exact ⟨rfl, rfl⟩
          · have k3' : (x.kind == 3) = false := by simpa using k3
            by_cases k2 : x.kind = 2
            · rw [k2] at d0
              have HK := Lib.hid k2
              clear k3' k2
              by_cases y0 : 0 < x.y
              · by_cases y1 : x.y ≤ 10000
                · by_cases k0 : k = 0
                  · obtain rfl : t = false := HMY.out.symm.trans (by subst k0; exact mayB_zero hx k3)
                    have e2 : ¬ (0 : Int) < (k : Int) := by omega
                    clear k0
                    go_wp2_with fail
                    go_meet
                    exact ⟨rfl, rfl⟩
                  · obtain ⟨j, hj⟩ : ∃ j, k = j + 1 := ⟨k - 1, by omega⟩
                    obtain ⟨y, hy⟩ := get_some (l := l) (k := j) (by omega)
                    obtain ⟨-, d1, -⟩ := its_at hX hy
                    rw [show j = k - 1 from by omega] at d1
                    have e2 : (0 : Int) < (k : Int) := by omega
                    by_cases q1 : y.kind = 1
                    · obtain rfl : t = true := HMY.out.symm.trans (by subst hj; exact mayB_yes hx HK.out (pl_pos.2 ⟨y0, y1⟩) hy q1)
                      rw [q1] at d1
                      clear hj
                      go_wp2_with fail
                      go_meet
                      exact ⟨rfl, rfl⟩
                    · obtain rfl : t = false := HMY.out.symm.trans (by subst hj; exact mayB_no hx k3 hy q1)
                      have q1' : (y.kind == 1) = false := by simpa using q1
                      clear hj
                      go_wp2_with fail
                      go_meet
                      exact ⟨rfl, rfl⟩
                · obtain rfl : t = false := HMY.out.symm.trans (mayB_stiff hx k3 (fun e => y1 (pl_pos.1 e).2))
                  go_wp2_with fail
                  go_meet
                  exact ⟨rfl, rfl⟩
              · obtain rfl : t = false := HMY.out.symm.trans (mayB_stiff hx k3 (fun e => y0 (pl_pos.1 e).1))
                go_wp2_with fail
                go_meet
                exact ⟨rfl, rfl⟩
            · obtain rfl : t = false := HMY.out.symm.trans (mayB_other hx k3 k2)
              have k2' : (x.kind == 2) = false := by simpa using k2
              go_wp2_with fail
              go_meet
              exact ⟨rfl, rfl⟩
        case rest =>
          obtain ⟨rfl, rfl⟩ := hcut
          have hnx := brksTo_next l k
          obtain ⟨a, ha⟩ : ∃ a, (brksTo l k).length = a := ⟨_, rfl⟩
          have hst : Hid ((brksTo l (k + 1)).length = if t = true then a + 1 else a) := Lib.hid (by
            rw [hnx, HMY.out, List.length_append, ha]
            cases t <;> rfl)
          have hcell : Hid (t = true → wc.cell? ⟨g, og + a, none⟩ = some (.int .i64 k)) := Lib.hid (fun e => (hbX.cell (p := ⟨g, og + a, none⟩) hg).trans (by rw [← ha]; exact HB.out k hlt (HMY.out.trans e)))
          have a1 : (a : Int) < N := by rw [← ha]; omega
          have a2 : (0 : Int) ≤ a := by omega
          clear hnx d0 d2 hkN
          rw [ha]
          clear ha
          go_upto_if 71 with (fail)
          go_cut [4] from 71 to 85 (fun s4 wx => s4 = .int .i64 ((brksTo l (k + 1)).length : Nat) ∧ wx = wc)
          case first =>
            cases t
            · go_wp2
              go_meet
              exact ⟨by rw [hst.out]; rfl, rfl⟩
            · have hc1 := hcell.out rfl
              go_wp2
              go_meet
              exact ⟨by rw [hst.out]; simp, rfl⟩
          case rest =>
            obtain ⟨rfl, rfl⟩ := hcut
            clear hst hcell
            obtain ⟨f, hf⟩ : ∃ f, fst l k = f := ⟨_, rfl⟩
            have hff := fst_nat l (a := k) (by omega)
            rw [hf] at hff
            have f1 : k + 1 ≤ f := by rw [hff]; exact nb_ge _ _
            have f2 : f ≤ n := by rw [hff, ← hl]; exact nb_le (by omega)
            have hF := first_any (c := c) k (by omega) hX
            rw [hf] at hF
            have hno : Hid (∀ j y, k + 1 ≤ j → j < f → l[j]? = some y → y.kind ≠ 1) := Lib.hid (fun j y h1 h2 hy => nb_not h1 (by rw [← hff]; exact h2) hy)
            have his : Hid (f < n → ∃ y, l[f]? = some y ∧ y.kind = 1) := Lib.hid (fun e => by rw [hff]; exact nb_is (by rw [← hff]; omega))
            clear hf hff
            have g1 : ¬ (f : Int) ≤ k := by omega
            have g2 : ¬ (n : Int) < f := by omega
            clear a1 a2
            go_wp2_with fail
            refine hF.mono ?_
            clear hF
            rintro e w' ⟨rfl, rfl⟩
            go_upto_region 17 with (fail)
            go_cut [111] from 89 to 110 (fun s111 wx => s111 = .bool false ∧ wx = wc)
            case first =>
              by_cases hfn : f < n
              · obtain ⟨y, hy, ky⟩ := his.out hfn
                obtain ⟨-, d0, -⟩ := its_at hX hy
                rw [ky] at d0
                clear ky
                have g3 : (f : Int) < n := by omega
                go_wp2_with fail
                go_meet
                exact ⟨vbool (by simp <;> omega), rfl⟩
              · have g3 : ¬ (f : Int) < n := by omega
                go_wp2_with fail
                go_meet
                exact ⟨vbool (by simp <;> omega), rfl⟩
            case rest =>
              obtain ⟨rfl, rfl⟩ := hcut
              clear his
              go_wp2
              go_loopw [9] (fun j wr' => ∃ q : Nat, j = .int .i64 q ∧ k + 1 ≤ q ∧ q ≤ f ∧ wr' = wc) (fun j _ => f - (intOf j).toNat)
              case atStart => exact ⟨k + 1, by go_num, by omega, by omega, rfl⟩
              case round =>
                obtain ⟨q, rfl, hq1, hq2, rfl⟩ := hrel
                by_cases hqf : q < f
                · obtain ⟨y, hy⟩ := get_some (l := l) (k := q) (by omega)
                  have ky := hno.out q y hq1 hqf hy
                  obtain ⟨-, d0, -⟩ := its_at hX hy
                  have ky' : (y.kind == 1) = false := by simpa using ky
                  go_wp2
                  go_roundw
                  case rel => exact ⟨q + 1, by go_num, by omega, by omega, by simp⟩
                  case measure => simp [intOf]; omega
                · go_wp2
                  go_roundw
                  case rel => exact ⟨k + 1, by simp, by go_num, by omega, hbX⟩
                  case measure => simp [intOf]; omega
      · obtain rfl : k = n := by omega
        have e9 : (((brksTo l k).length : Int) == (N : Int) - 1) = true := by
          have := HLEN.out
          simp only [beq_iff_eq]
          omega
        go_wp2_with fail
        refine (wakes16_any _).mono ?_
        rintro e w9 ⟨rfl, hb9⟩
        go_wp2
        go_ret
        exact Ret.mk rfl ((hb1.trans (hbr.mono hz1)).trans (hb9.mono (by omega)))

set_option maxRecDepth 100000 in
theorem measureBreaks_walk {H : Type} {enc : TypeId × Value → H} {W : World} {base : Nat} {v0 : Value} {d0 : DataW H} {p0 : List MemPlace}
    (k0 : Value.okWide Try.prog W .any base 36 v0) (h0 : DataW.Trod enc Try.prog W 0 (fun _ => true) true 36 v0 d0 p0)
    : Calls Try.prog 8 #[v0] W fun e W' => e = .returned (.bool true) ∧ Below W.heap.size W W' := by
  obtain ⟨A, n, c, l, rfl, hl, hn, hc, -, hsl⟩ := open_items k0 h0
  exact measureBreaks_core hn hc hsl
end Go.Proofs.Ytaifbbmobhfjcaa
