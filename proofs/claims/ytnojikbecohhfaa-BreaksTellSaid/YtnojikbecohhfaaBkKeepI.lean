/- codexkeep.Ints: are two lists of ints alike? -/
import Derived.Test.YtnojikbecohhfaaBkRLess
import Derived.Deep.CutRange
namespace Go.Proofs.Ytnojikbecohhfaa
set_option linter.unusedSimpArgs false
set_option linter.unusedVariables false
open Go.RowKit Go.Sort

set_option maxHeartbeats 8000000 in
set_option maxRecDepth 100000 in
theorem keepi_any {A A' : Option Addr} {n m c c' B B' : Nat} {la lb : List Int} (w : World) (ha : IvAt w B A n c la) (hb : IvAt w B' A' m c' lb) (hB : B ≤ w.heap.size) (hB' : B' ≤ w.heap.size) (hn : n ≤ 1000000) :
    Calls Try.prog 17 #[.slice A n c, .slice A' m c'] w (Ret w (.bool (decide (la = lb)))) := by
  have hln := ha.len
  have hlm := hb.len
  have HA := Lib.hid ha
  have HB := Lib.hid hb
  by_cases hnm : n = m
  · subst hnm
    have HN := Lib.hid (And.intro hln hlm)
    clear hln hlm ha hb
    go_enter Try.func17, Try.ntmps17
    go_wp2_with fail
    go_loopw [5] (fun i wr => ∃ k : Nat, k ≤ n ∧ i = .int .i64 k ∧ Below w.heap.size w wr ∧ (∀ j : Nat, j < k → la[j]? = lb[j]?)) (fun i _ => n - (intOf i).toNat)
    case atStart => exact ⟨0, by omega, rfl, Below.refl _ _, fun j hj => absurd hj (by omega)⟩
    case round =>
      obtain ⟨k, hk, rfl, hBr, hne⟩ := hrel
      by_cases hlt : k < n
      · obtain ⟨x, hx⟩ : ∃ x, la[k]? = some x := ⟨_, List.getElem?_eq_getElem (by rw [HN.out.1]; exact hlt)⟩
        obtain ⟨y, hy⟩ : ∃ y, lb[k]? = some y := ⟨_, List.getElem?_eq_getElem (by rw [HN.out.2]; exact hlt)⟩
        obtain ⟨b, o, rfl, hbB, hxr⟩ := HA.out.entry hx
        obtain ⟨b', o', rfl, hbB', hyr⟩ := HB.out.entry hy
        have hi1 : (k : Int) < (n : Int) := by omega
        have hxr1 := (hBr.cell (p := ⟨b, o + k, none⟩) (by show b < _; omega)).trans hxr
        have hyr1 := (hBr.cell (p := ⟨b', o' + k, none⟩) (by show b' < _; omega)).trans hyr
        have HX := Lib.hid (And.intro hx (And.intro hy (And.intro hne hBr)))
        clear hx hy hne hxr hyr hBr
        by_cases hxy : x = y
        · subst hxy
          go_upto_region 6 with (fail)
          go_quiet (fail)
          obtain ⟨V, hV⟩ : ∃ q, wr.drewN nq = q := ⟨_, rfl⟩
          have hbV : Below wr.heap.size wr V := by rw [← hV]; exact bDrewN (Below.refl _ _) nq
          rw [hV]
          clear hV
          obtain ⟨hx, hy, hne, hBr⟩ := HX.out
          have HR := Lib.hid (And.intro hx (And.intro hy (And.intro hne (bNext hBr hbV))))
          clear hx hy hne hBr HX hxr1 hyr1 hbV
          go_wp2_with fail
          go_roundw
          case rel => exact ⟨k + 1, by omega, by go_num, HR.out.2.2.2, fun j hj => by
            rcases Nat.lt_or_ge j k with h | h
            · exact HR.out.2.2.1 j h
            · obtain rfl : j = k := by omega
              rw [HR.out.1, HR.out.2.1]⟩
          case measure => simp [intOf]; omega
        · go_upto_region 6 with (fail)
          go_quiet (fail)
          obtain ⟨V, hV⟩ : ∃ q, wr.drewN nq = q := ⟨_, rfl⟩
          have hbV : Below wr.heap.size wr V := by rw [← hV]; exact bDrewN (Below.refl _ _) nq
          rw [hV]
          clear hV
          have HR := Lib.hid (And.intro HX.out (And.intro hbV hxy))
          clear HX hxr1 hyr1 hbV
          go_wp2_with fail
          go_ret
          obtain ⟨⟨hx, hy, -, hBr⟩, hbV, hxy⟩ := HR.out
          refine Ret.mk (vbool ?_) (bNext hBr hbV)
          rw [eq_comm, decide_eq_false]
          rintro e
          rw [e, hy] at hx
          injection hx with e2
          exact hxy e2.symm
      · obtain rfl : k = n := by omega
        have hi1 : ¬ (k : Int) < (k : Int) := by omega
        have HR := Lib.hid (And.intro hne hBr)
        clear hne hBr
        go_wp2_with fail
        go_ret
        refine Ret.mk (vbool ?_) HR.out.2
        rw [eq_comm, decide_eq_true]
        refine List.ext_getElem? fun j => ?_
        rcases Nat.lt_or_ge j k with h | h
        · exact HR.out.1 j h
        · rw [List.getElem?_eq_none (by rw [HN.out.1]; exact h), List.getElem?_eq_none (by rw [HN.out.2]; exact h)]
  · have e : Hid (decide (la = lb) = false) := Lib.hid (by rw [decide_eq_false]; rintro rfl; omega)
    have hnm' : (n : Int) ≠ (m : Int) := by omega
    clear hln hlm ha hb
    go_enter Try.func17, Try.ntmps17
    go_wp2_with fail
    go_ret
    exact Ret.mk (vbool e.out.symm) (by repeat (first | (with_reducible exact Below.refl _ _) | (with_reducible refine bDrewN ?_ _) | (with_reducible refine Below.drew ?_) | (with_reducible refine Below.alloc ?_ ?_ _) | (with_reducible refine Below.setCell ?_ ?_ _) | (with_reducible assumption) | go_size))
end Go.Proofs.Ytnojikbecohhfaa
