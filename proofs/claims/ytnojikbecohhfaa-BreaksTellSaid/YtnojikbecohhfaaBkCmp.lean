/- Ints in memory; the walks over cmp.Compare, slices.Compare, slices.Clone (at ints) and pages.better. -/
import Derived.Test.YtnojikbecohhfaaBkPlain
import Derived.Test.YtnojikbecohhfaaMany
import Derived.Test.YtnojikbecohhfaaRound
import Derived.Test.YtnojikbecohhfaaChecked
namespace Go.Proofs.Ytnojikbecohhfaa
set_option linter.unusedSimpArgs false
set_option linter.unusedVariables false
open Go.RowKit Go.Sort

def ivs (l : List Int) : List Value := l.map (Value.int .i64)
theorem ivs_len (l : List Int) : (ivs l).length = l.length := by simp [ivs]
theorem one_ivs (l : List Int) : ∀ u ∈ ivs l, u.oneCell' = true := by
  intro u hu
  obtain ⟨x, -, rfl⟩ := List.mem_map.1 hu
  rfl
theorem ivs_append (a b : List Int) : ivs (a ++ b) = ivs a ++ ivs b := by simp [ivs]
structure IvAt (w : World) (B : Nat) (A : Option Addr) (n c : Nat) (l : List Int) : Prop where
  wide : ∀ x ∈ l, -9223372036854775808 ≤ x ∧ x ≤ 9223372036854775807
  len : l.length = n
  sl : Sl w B 1 A n (ivs l)
  cap : n ≤ c
theorem IvAt.below {w w' : World} {B : Nat} {A : Option Addr} {n c : Nat} {l : List Int} (h : IvAt w B A n c l) (hb : Below B w w') : IvAt w' B A n c l := ⟨h.wide, h.len, h.sl.below hb, h.cap⟩
theorem IvAt.nxt {w w' : World} {A : Option Addr} {n c : Nat} {l : List Int} (h : IvAt w w.heap.size A n c l) (hb : Below w.heap.size w w') : IvAt w' w'.heap.size A n c l := ⟨h.wide, h.len, h.sl.next hb, h.cap⟩
theorem IvAt.entry {w : World} {B : Nat} {A : Option Addr} {n c : Nat} {l : List Int} (h : IvAt w B A n c l) {k : Nat} {x : Int} (hx : l[k]? = some x) : ∃ b o, A = some ⟨b, o, none⟩ ∧ b < B ∧ w.cell? ⟨b, o + k, none⟩ = some (.int .i64 x) := by
  obtain ⟨hk, -⟩ := List.getElem?_eq_some_iff.1 hx
  have hl := h.len
  obtain ⟨b, o, e, hb, hr⟩ := h.sl.at_ (by omega)
  exact ⟨b, o, e, hb, hr k _ (by simp [ivs, hx])⟩
theorem elemI : Elem Try.prog 3 1 8 := elem_of (z := .int .i64 0) (by kernel_rfl) (by simp [Value.cells]) (by omega)

theorem nan_any (x : Int) (w : World) : Calls Try.prog 58 #[.int .i64 x] w fun e w' => e = .returned (.bool false) ∧ w = w' := by
  go_enter Try.func58, Try.ntmps58
  go_wp2_with fail
  go_ret
  exact ⟨ret_bool (by simp), rfl⟩
def cmpI (a b : Int) : Int := if a < b then -1 else if b < a then 1 else 0
theorem cmp_any (a b : Int) (w : World) : Calls Try.prog 55 #[.int .i64 a, .int .i64 b] w fun e w' => e = .returned (.int .i64 (cmpI a b)) ∧ w = w' := by
  have hn1 := nan_any a w
  have hn2 := nan_any b w
  obtain ⟨R, hR⟩ : ∃ R, cmpI a b = R := ⟨_, rfl⟩
  rw [hR]
  unfold cmpI at hR
  by_cases h1 : a < b
  · rw [if_pos h1] at hR
    have HE : Hid (R = -1) := Lib.hid hR.symm
    clear hR
    go_enter Try.func55, Try.ntmps55
    go_wp2_with fail
    refine Calls.mono hn1 ?_
    rintro e w' ⟨rfl, rfl⟩
    go_wp2_with fail
    refine Calls.mono hn2 ?_
    rintro e w' ⟨rfl, rfl⟩
    go_wp2_with fail
    go_ret
    exact ⟨by rw [HE.out]; rfl, by trivial⟩
  · rw [if_neg h1] at hR
    by_cases h2 : b < a
    · rw [if_pos h2] at hR
      have HE : Hid (R = 1) := Lib.hid hR.symm
      clear hR
      go_enter Try.func55, Try.ntmps55
      go_wp2_with fail
      refine Calls.mono hn1 ?_
      rintro e w' ⟨rfl, rfl⟩
      go_wp2_with fail
      refine Calls.mono hn2 ?_
      rintro e w' ⟨rfl, rfl⟩
      go_wp2_with fail
      go_ret
      exact ⟨by rw [HE.out]; rfl, by trivial⟩
    · rw [if_neg h2] at hR
      have HE : Hid (R = 0) := Lib.hid hR.symm
      clear hR
      go_enter Try.func55, Try.ntmps55
      go_wp2_with fail
      refine Calls.mono hn1 ?_
      rintro e w' ⟨rfl, rfl⟩
      go_wp2_with fail
      refine Calls.mono hn2 ?_
      rintro e w' ⟨rfl, rfl⟩
      go_wp2_with fail
      go_ret
      exact ⟨by rw [HE.out]; rfl, by trivial⟩
theorem cmpL_cons (x y : Int) (a b : List Int) : cmpL (x :: a) (y :: b) = if cmpI x y = 0 then cmpL a b else cmpI x y := by
  rw [cmpL]
  unfold cmpI
  by_cases h1 : x < y
  · simp [h1]
  · by_cases h2 : y < x
    · simp [h1, h2]
    · simp [h1, h2]
theorem drop_at {l : List Int} {k : Nat} {x : Int} (h : l[k]? = some x) : l.drop k = x :: l.drop (k + 1) := by
  obtain ⟨hk, rfl⟩ := List.getElem?_eq_some_iff.1 h
  exact List.drop_eq_getElem_cons hk
set_option maxRecDepth 100000 in
theorem compare_any {A A' : Option Addr} {n m c c' B B' : Nat} {la lb : List Int} (w : World) (ha : IvAt w B A n c la) (hb : IvAt w B' A' m c' lb) (hB : B ≤ w.heap.size) (hB' : B' ≤ w.heap.size) (hn : n ≤ 1000000) (hm : m ≤ 1000000) :
    Calls Try.prog 50 #[.slice A n c, .slice A' m c'] w fun e w' => e = .returned (.int .i64 (cmpL la lb)) ∧ w = w' := by
  have hln := ha.len
  have hlm := hb.len
  obtain ⟨R, hR⟩ : ∃ R, cmpL la lb = R := ⟨_, rfl⟩
  rw [hR]
  have HL := Lib.hid (And.intro hln hlm)
  have HH := Lib.hid (And.intro ha hb)
  have HR := Lib.hid hR
  clear ha hb hln hlm hR
  go_enter Try.func50, Try.ntmps50
  go_wp2_with fail
  go_loopw [11] (fun i wr => ∃ k : Nat, k ≤ n ∧ k ≤ m ∧ i = .int .i64 k ∧ wr = w ∧ R = cmpL (la.drop k) (lb.drop k)) (fun i _ => n - (intOf i).toNat)
  case atStart => exact ⟨0, by omega, by omega, rfl, rfl, by rw [List.drop_zero, List.drop_zero, HR.out]⟩
  case round =>
    obtain ⟨k, hk, hkm, rfl, rfl, hc⟩ := hrel
    have HC := Lib.hid hc
    clear hc
    by_cases hlt : k < n
    · obtain ⟨x, hx⟩ : ∃ x, la[k]? = some x := ⟨_, List.getElem?_eq_getElem (by rw [HL.out.1]; exact hlt)⟩
      obtain ⟨b, o, rfl, hbB, hxr⟩ := HH.out.1.entry hx
      have hi1 : (k : Int) < (n : Int) := by omega
      have HX := Lib.hid hx
      clear hx
      by_cases hltm : k < m
      · obtain ⟨y, hy⟩ : ∃ y, lb[k]? = some y := ⟨_, List.getElem?_eq_getElem (by rw [HL.out.2]; exact hltm)⟩
        obtain ⟨b', o', rfl, hbB', hyr⟩ := HH.out.2.entry hy
        have hi2 : (k : Int) < (m : Int) := by omega
        have hi3 : ¬ (m : Int) ≤ (k : Int) := by omega
        have hc := HC.out
        rw [drop_at HX.out, drop_at hy, cmpL_cons] at hc
        have hcm := cmp_any x y wr
        obtain ⟨r, hr⟩ : ∃ r, cmpI x y = r := ⟨_, rfl⟩
        rw [hr] at hc hcm
        have HC2 := Lib.hid hc
        clear hc hy HX hr
        go_wp2_with fail
        refine Calls.mono hcm ?_
        rintro e w' ⟨rfl, rfl⟩
        clear hcm
        by_cases hr0 : r = 0
        · subst hr0
          go_wp2_with fail
          go_roundw
          case rel => exact ⟨k + 1, by omega, by omega, by go_num, by trivial, by rw [HC2.out]; simp⟩
          case measure => simp [intOf]; omega
        · have HR0 := Lib.hid hr0
          go_wp2_with fail
          go_ret
          exact ⟨by rw [HC2.out, if_neg HR0.out]; rfl, by trivial⟩
      · have hi3 : (m : Int) ≤ (k : Int) := by omega
        have HE : Hid (R = 1) := Lib.hid (by
          have e2 : lb.drop k = [] := List.drop_eq_nil_of_le (by rw [HL.out.2]; omega)
          rw [HC.out, drop_at HX.out, e2]
          rfl)
        go_wp2_with fail
        go_ret
        exact ⟨by rw [HE.out]; rfl, by trivial⟩
    · obtain rfl : k = n := by omega
      have hi1 : ¬ (k : Int) < (k : Int) := by omega
      have hc := HC.out
      rw [List.drop_eq_nil_of_le (by rw [HL.out.1]; exact Nat.le_refl _)] at hc
      by_cases hkm2 : k < m
      · have hi2 : (k : Int) < (m : Int) := by omega
        obtain ⟨y, hy⟩ : ∃ y, lb[k]? = some y := ⟨_, List.getElem?_eq_getElem (by rw [HL.out.2]; exact hkm2)⟩
        have HE : Hid (R = -1) := Lib.hid (by rw [hc, drop_at hy]; rfl)
        clear hc hy HC
        go_wp2_with fail
        go_ret
        exact ⟨by rw [HE.out]; rfl, by trivial⟩
      · have hi2 : ¬ (k : Int) < (m : Int) := by omega
        have HE : Hid (R = 0) := Lib.hid (by
          have e2 : lb.drop k = [] := List.drop_eq_nil_of_le (by rw [HL.out.2]; omega)
          rw [hc, e2]; rfl)
        clear hc HC
        go_wp2_with fail
        go_ret
        exact ⟨by rw [HE.out]; rfl, by trivial⟩
end Go.Proofs.Ytnojikbecohhfaa
