/- codexref17.less: the order of lists of ints. -/
import Derived.Test.YtnojikbecohhfaaBkLaw2
namespace Go.Proofs.Ytnojikbecohhfaa
set_option linter.unusedSimpArgs false
set_option linter.unusedVariables false
open Go.RowKit Go.Sort

theorem cmpL_same {la lb : List Int} {k : Nat} {x : Int} (hx : la[k]? = some x) (hy : lb[k]? = some x) : cmpL (la.drop k) (lb.drop k) = cmpL (la.drop (k + 1)) (lb.drop (k + 1)) := by
  rw [drop_at hx, drop_at hy, cmpL, if_neg (by omega), if_neg (by omega)]
theorem cmpL_diff {la lb : List Int} {k : Nat} {x y : Int} (hx : la[k]? = some x) (hy : lb[k]? = some y) (hxy : x ≠ y) : decide (cmpL (la.drop k) (lb.drop k) < 0) = decide (x < y) := by
  rw [drop_at hx, drop_at hy, cmpL]
  by_cases h : x < y
  · rw [if_pos h]; simp [h]
  · rw [if_neg h, if_pos (by omega)]; simp [h]
theorem cmpL_end {la lb : List Int} {k : Nat} (h1 : k ≤ la.length) (h2 : k ≤ lb.length) (h : la.length = k ∨ lb.length = k) : decide (cmpL (la.drop k) (lb.drop k) < 0) = decide (la.length < lb.length) := by
  rcases h with h | h
  · rw [List.drop_of_length_le (show la.length ≤ k by omega)]
    cases hb : lb.drop k with
    | nil =>
      have := congrArg List.length hb
      rw [List.length_drop] at this
      simp at this
      simp [cmpL]; omega
    | cons y t =>
      have := congrArg List.length hb
      rw [List.length_drop] at this
      simp at this
      simp [cmpL]; omega
  · rw [List.drop_of_length_le (show lb.length ≤ k by omega)]
    cases hb : la.drop k with
    | nil => simp [cmpL]; omega
    | cons y t => simp [cmpL]; omega
set_option maxHeartbeats 8000000 in
set_option maxRecDepth 100000 in
theorem rless_any {A A' : Option Addr} {n m c c' : Nat} {la lb : List Int} (w : World) (ha : IvAt w w.heap.size A n c la) (hb : IvAt w w.heap.size A' m c' lb) (hn : n ≤ 1000000) (hm : m ≤ 1000000) :
    Calls Try.prog 44 #[.slice A n c, .slice A' m c'] w (Ret w (.bool (decide (cmpL la lb < 0)))) := by
  have HA := Lib.hid ha
  have HB := Lib.hid hb
  have HN := Lib.hid (And.intro ha.len hb.len)
  clear ha hb
  obtain ⟨R, hR⟩ : ∃ q, decide (cmpL la lb < 0) = q := ⟨_, rfl⟩
  rw [hR]
  have HR0 := Lib.hid hR
  clear hR
  go_enter Try.func44, Try.ntmps44
  go_wp2_with fail
  go_loopw [5] (fun i wr => ∃ k : Nat, k ≤ n ∧ k ≤ m ∧ i = .int .i64 k ∧ Below w.heap.size w wr ∧ Hid (decide (cmpL (la.drop k) (lb.drop k) < 0) = R)) (fun i _ => n - (intOf i).toNat)
  case atStart => exact ⟨0, by omega, by omega, rfl, Below.refl _ _, Lib.hid HR0.out⟩
  case round =>
    obtain ⟨k, hk, hkm, rfl, hBr, hne⟩ := hrel
    by_cases hlt : k < n
    · have hi1 : (k : Int) < (n : Int) := by omega
      by_cases hltm : k < m
      · obtain ⟨x, hx⟩ : ∃ x, la[k]? = some x := ⟨_, List.getElem?_eq_getElem (by rw [HN.out.1]; exact hlt)⟩
        obtain ⟨y, hy⟩ : ∃ y, lb[k]? = some y := ⟨_, List.getElem?_eq_getElem (by rw [HN.out.2]; exact hltm)⟩
        obtain ⟨b, o, rfl, hbB, hxr⟩ := HA.out.entry hx
        obtain ⟨b', o', rfl, hbB', hyr⟩ := HB.out.entry hy
        have hi2 : (k : Int) < (m : Int) := by omega
        have hxr1 := (hBr.cell (p := ⟨b, o + k, none⟩) hbB).trans hxr
        have hyr1 := (hBr.cell (p := ⟨b', o' + k, none⟩) hbB').trans hyr
        have HX := Lib.hid (And.intro hx (And.intro hy (And.intro hne.out hBr)))
        clear hx hy hne hxr hyr hBr
        by_cases hxy : x = y
        · subst hxy
          go_upto_region 4 with (fail)
          go_quiet (fail)
          obtain ⟨V, hV⟩ : ∃ q, wr.drewN nq = q := ⟨_, rfl⟩
          have hbV : Below wr.heap.size wr V := by rw [← hV]; exact bDrewN (Below.refl _ _) nq
          rw [hV]
          clear hV
          obtain ⟨hx, hy, hne, hBr⟩ := HX.out
          have HR := Lib.hid (And.intro (by rw [← cmpL_same hx hy]; exact hne : decide (cmpL (la.drop (k + 1)) (lb.drop (k + 1)) < 0) = R) (bNext hBr hbV))
          clear hx hy hne hBr HX hxr1 hyr1 hbV
          go_wp2_with fail
          go_roundw
          case rel => exact ⟨k + 1, by omega, by omega, by go_num, HR.out.2, Lib.hid HR.out.1⟩
          case measure => simp [intOf]; omega
        · go_upto_region 4 with (fail)
          go_quiet (fail)
          obtain ⟨V, hV⟩ : ∃ q, wr.drewN nq = q := ⟨_, rfl⟩
          have hbV : Below wr.heap.size wr V := by rw [← hV]; exact bDrewN (Below.refl _ _) nq
          rw [hV]
          clear hV
          have hxr2 := (hbV.cell (p := ⟨b, o + k, none⟩) (by have := HX.out.2.2.2.size; show b < _; omega)).trans hxr1
          have hyr2 := (hbV.cell (p := ⟨b', o' + k, none⟩) (by have := HX.out.2.2.2.size; show b' < _; omega)).trans hyr1
          have HB1 := Lib.hid (bNext HX.out.2.2.2 hbV)
          clear hxr1 hyr1 hbV
          go_upto_region 5 with (fail)
          go_quiet (fail)
          obtain ⟨V2, hV⟩ : ∃ q, V.drewN nq = q := ⟨_, rfl⟩
          have hbV : Below V.heap.size V V2 := by rw [← hV]; exact bDrewN (Below.refl _ _) nq
          rw [hV]
          clear hV
          have HB2 := Lib.hid (bNext HB1.out hbV)
          have hfin : decide (x < y) = R := by rw [← HX.out.2.2.1, cmpL_diff HX.out.1 HX.out.2.1 hxy]
          have HF := Lib.hid hfin
          clear hxr2 hyr2 hbV hfin
          go_wp2_with fail
          go_ret
          exact Ret.mk (vbool (by rw [← HF.out])) HB2.out
      · obtain rfl : k = m := by omega
        have hi2 : ¬ (k : Int) < (k : Int) := by omega
        have hfin : decide (n < k) = R := by rw [← hne.out, cmpL_end (by rw [HN.out.1]; omega) (by rw [HN.out.2]; omega) (.inr HN.out.2), HN.out.1, HN.out.2]
        have HR := Lib.hid (And.intro hfin hBr)
        clear hne hBr hfin
        go_wp2_with fail
        go_ret
        exact Ret.mk (vbool (by rw [← HR.out.1])) HR.out.2
    · obtain rfl : k = n := by omega
      have hi1 : ¬ (k : Int) < (k : Int) := by omega
      have hfin : decide (k < m) = R := by rw [← hne.out, cmpL_end (by rw [HN.out.1]; omega) (by rw [HN.out.2]; omega) (.inl HN.out.1), HN.out.1, HN.out.2]
      have HR := Lib.hid (And.intro hfin hBr)
      clear hne hBr hfin
      go_wp2_with fail
      go_ret
      exact Ret.mk (vbool (by rw [← HR.out.1])) HR.out.2
end Go.Proofs.Ytnojikbecohhfaa
