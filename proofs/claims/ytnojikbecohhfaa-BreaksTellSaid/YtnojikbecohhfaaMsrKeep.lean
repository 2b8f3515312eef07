
/- The walks over the keepers of layers 14 and 16: Fair, Ints, Items; the layer's own test. -/
import Derived.Test.YtnojikbecohhfaaMsrWalk
import Derived.StillTailTactics
namespace Go.Proofs.Ytnojikbecohhfaa
set_option linter.unusedSimpArgs false
set_option linter.unusedVariables false
open Go.RowKit

theorem ints_same {A B : Option Addr} {n c c' BA BB : Nat} {xs : List Nat} (hm : n ≤ maxLen) {w : World} (h1 : Sl w BA 1 A n (ints xs)) (h2 : Sl w BB 1 B n (ints xs)) :
    Calls Try.prog 17 #[.slice A n c, .slice B n c'] w (Ret w (.bool true)) := by
  have hl : xs.length = n := by have := h1.len; rw [ints_len] at this; omega
  have hm' : (n : Int) ≤ 9223372036854775807 := by simp only [maxLen] at hm; omega
  go_enter Try.func17, Try.ntmps17
  go_wp2
  go_loopw [5] (fun i wr => ∃ k : Nat, i = .int .i64 k ∧ k ≤ n ∧ ∃ m, wr = w.drewN m) (fun i _ => n - (intOf i).toNat)
  case atStart => exact ⟨0, rfl, by omega, 0, rfl⟩
  case round =>
    obtain ⟨k, rfl, hk, m0, rfl⟩ := hrel
    by_cases hlt : k < n
    · obtain ⟨b, o, rfl, hb, hr⟩ := h1.at_ (by omega)
      obtain ⟨b', o', rfl, hb', hr'⟩ := h2.at_ (by omega)
      obtain ⟨x, hx⟩ := get_some (l := xs) (k := k) (by omega)
      have c1 : w.cell? ⟨b, o + k, none⟩ = some (.int .i64 x) := hr k _ (by simp [ints, hx])
      have c2 : w.cell? ⟨b', o' + k, none⟩ = some (.int .i64 x) := hr' k _ (by simp [ints, hx])
      have hkn : (k : Int) < n := by omega
      have hk0 : (0 : Int) ≤ k := by omega
      generalize (x : Int) = z at *
      clear hr hr'
      go_wp2
      go_quiet (fail)
      go_wp2
      go_roundw
      case rel => exact ⟨k + 1, by go_num, by omega, _, rfl⟩
      case measure => simp [intOf]; omega
    · go_wp2
      go_ret
      exact Ret.mk rfl (bDrewN (Below.refl _ _) _)
theorem items_same {A B : Option Addr} {n c c' BA BB : Nat} {xs : List It} (hm : n ≤ maxLen) {w : World} (h1 : Sl w BA 6 A n (encs xs)) (h2 : Sl w BB 6 B n (encs xs)) :
    Calls Try.prog 16 #[.slice A n c, .slice B n c'] w (Ret w (.bool true)) := by
  have hl := its_len h1
  have hm' : (n : Int) ≤ 9223372036854775807 := by simp only [maxLen] at hm; omega
  go_enter Try.func16, Try.ntmps16
  go_wp2
  go_loopw [5] (fun i wr => ∃ k : Nat, i = .int .i64 k ∧ k ≤ n ∧ ∃ m, wr = w.drewN m) (fun i _ => n - (intOf i).toNat)
  case atStart => exact ⟨0, rfl, by omega, 0, rfl⟩
  case round =>
    obtain ⟨k, rfl, hk, m0, rfl⟩ := hrel
    by_cases hlt : k < n
    · obtain ⟨x, hx⟩ := get_some (l := xs) (k := k) (by omega)
      obtain ⟨b, o, rfl, hb, c0, c1, c2, c3, c4, c5⟩ := its_cells h1 hx
      obtain ⟨b', o', rfl, hb', d0, d1, d2, d3, d4, d5⟩ := its_cells h2 hx
      have hkn : (k : Int) < n := by omega
      have hk0 : (0 : Int) ≤ k := by omega
      go_wp2
      go_quiet (fail)
      go_wp2
      go_roundw
      case rel => exact ⟨k + 1, by go_num, by omega, _, rfl⟩
      case measure => simp [intOf]; omega
    · go_wp2
      go_ret
      exact Ret.mk rfl (bDrewN (Below.refl _ _) _)

theorem fair_any {A : Option Addr} {n c B : Nat} {l : List It} (hm : n ≤ maxLen) {w : World} (h : Sl w B 6 A n (encs l)) :
    Calls Try.prog 8 #[.slice A n c] w fun e w' => (∃ t, e = .returned (.bool t) ∧ (t = true → n ≤ 700)) ∧ w = w' := by
  have hl := its_len h
  have hm' : (n : Int) ≤ 9223372036854775807 := by simp only [maxLen] at hm; omega
  go_enter Try.func8, Try.ntmps8
  go_wp2
  go_loopw [3, 4] (fun v i wr => ∃ (k : Nat) (s : Int), i = .int .i64 k ∧ v = .int .i64 s ∧ k ≤ n ∧ 0 ≤ s ∧ s ≤ 2000 ∧ wr = w) (fun _ i _ => n - (intOf i).toNat)
  case atStart => exact ⟨0, 0, rfl, rfl, by omega, by omega, by omega, rfl⟩
  case round =>
    obtain ⟨k, s, rfl, rfl, hk, hs0, hs1, rfl⟩ := hrel
    by_cases hlt : k < n
    · obtain ⟨x, hx⟩ := get_some (l := l) (k := k) (by omega)
      obtain ⟨b, o, rfl, hb, c0, c1, c2, c3, c4, c5⟩ := its_cells h hx
      generalize x.text = tx at *
      obtain ⟨m, hm1, hm2, hm3⟩ : ∃ m : Int, min (tx.size : Int) 2001 = m ∧ 0 ≤ m ∧ m ≤ 2001 := ⟨_, rfl, by omega, by omega⟩
      by_cases hgt : (2000 : Int) < s + m
      · go_wp2
        go_ret
        exact ⟨⟨false, rfl, fun e => by cases e⟩, rfl⟩
      · go_wp2
        go_roundw
        case rel => exact ⟨k + 1, s + m, by go_num, by simp, by omega, by omega, by omega, by simp⟩
        case measure => simp [intOf]; omega
    · go_wp2
      go_ret
      exact ⟨⟨_, rfl, fun e => by simp at e; omega⟩, rfl⟩

/-! ### the layer's own test -/
def L5 : List It := [⟨1, 5, 0, 0, 0, ⟨#[97]⟩⟩, ⟨2, 4, 2, 1, 0, ⟨#[]⟩⟩, ⟨1, 6, 0, 0, 0, ⟨#[98]⟩⟩, ⟨3, 4, 0, 0, 0, ⟨#[]⟩⟩, ⟨1, 7, 0, 0, 0, ⟨#[99]⟩⟩]
theorem L5_brks : brks L5 = [1, 3, 5] := by decide
theorem L5_first1 : fst L5 1 = 2 := by decide
theorem L5_first4 : fst L5 4 = 5 := by decide
theorem L5_line1 : line L5 (-1) 3 = ⟨19, 2, 1⟩ := by decide
theorem L5_line2 : line L5 1 5 = ⟨13, 0, 0⟩ := by decide
theorem L5_line3 : line L5 1 2 = ⟨0, 0, 0⟩ := by decide
end Go.Proofs.Ytnojikbecohhfaa
