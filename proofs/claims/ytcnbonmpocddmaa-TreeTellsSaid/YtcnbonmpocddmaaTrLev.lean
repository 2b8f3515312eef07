/- tree.Levels and the reference's. -/
import Derived.Test.YtcnbonmpocddmaaTrPlain
import Derived.Test.YtcnbonmpocddmaaRow
import Derived.Test.YtcnbonmpocddmaaKeep
namespace Go.Proofs.Ytcnbonmpocddmaa
set_option linter.unusedSimpArgs false
set_option linter.unusedVariables false
open Go.RowKit Go.Sort

def lvT (n : Int) : Int := if 0 ≤ n ∧ n ≤ 1000 then (lvN n.toNat : Int) else 0
set_option maxRecDepth 100000 in
theorem levels_any (n : Int) (w : World) : Calls Try.prog 18 #[.int .i64 n] w (Ret w (.int .i64 (lvT n))) := by
  by_cases h : 0 ≤ n ∧ n ≤ 1000
  · obtain ⟨m, rfl⟩ : ∃ m : Nat, n = m := ⟨n.toNat, by omega⟩
    have e : lvT (m : Int) = (lvN m : Int) := by unfold lvT; rw [if_pos h]; rfl
    rw [e]
    have n1 : ¬ (m : Int) < 0 := by omega
    have n2 : ¬ (1000 : Int) < (m : Int) := by omega
    have HM := Lib.hid h
    clear e h
    go_enter Try.func18, Try.ntmps18
    go_wp2_with fail
    go_loopw [0, 3] (fun s0 s3 wr => ∃ (a k : Nat), s0 = .int .i64 a ∧ s3 = .int .i64 k ∧ a ≤ 1000 ∧ k ≤ 100 ∧ Hid (lvN m + 1 = k + lvN a) ∧ wr = w) (fun a _ _ => (intOf a).toNat)
    case atStart => exact ⟨m, 1, rfl, rfl, by have := HM.out; omega, by omega, Lib.hid (by omega), rfl⟩
    case round =>
      obtain ⟨a, k, rfl, rfl, ha, hk, hr, rfl⟩ := hrel
      by_cases h3 : 3 < a
      · have h3' : (3 : Int) < (a : Int) := by omega
        have g1 : IntKind.i64.wrap ((a : Int) - 1) = (a : Int) - 1 := wrap_small _ (by omega) (by omega)
        have g2 : ((a : Int) - 1).tdiv 3 = ((a : Int) - 1) / 3 := Int.tdiv_eq_ediv_of_nonneg (by omega)
        have g3 : IntKind.i64.wrap (((a : Int) - 1) / 3) = ((a : Int) - 1) / 3 := wrap_small _ (by omega) (by omega)
        have g4 : IntKind.i64.wrap (((a : Int) - 1) / 3 + 1) = (((a + 2) / 3 : Nat) : Int) := by rw [wrap_small _ (by omega) (by omega)]; omega
        have g5 : IntKind.i64.wrap ((k : Int) + 1) = ((k + 1 : Nat) : Int) := by rw [wrap_small _ (by omega) (by omega)]; omega
        have hst := lvN_step h3 ha
        have hk7 : lvN m ≤ 7 := by unfold lvN; (repeat' split) <;> omega
        have hr2 := Lib.hid (show lvN m + 1 = (k + 1) + lvN ((a + 2) / 3) ∧ k + 1 ≤ 100 from ⟨by have := hr.out; omega, by have := hr.out; omega⟩)
        clear hr hst hk7
        go_wp2_with fail
        go_roundw
        case rel => exact ⟨(a + 2) / 3, k + 1, by go_num, by go_num, by omega, hr2.out.2, Lib.hid hr2.out.1, by trivial⟩
        case measure => simp [intOf]; omega
      · have h3' : ¬ (3 : Int) < (a : Int) := by omega
        have e : lvN m = k := by have := hr.out; have e1 : lvN a = 1 := by unfold lvN; rw [if_pos (by omega)]
                                 omega
        have HE := Lib.hid e
        clear hr e
        go_wp2_with fail
        go_ret
        exact Ret.mk (by rw [HE.out]; rfl) (by repeat (first | (with_reducible exact Below.refl _ _) | (with_reducible refine bDrewN ?_ _) | (with_reducible refine Below.drew ?_) | (with_reducible refine Below.alloc ?_ ?_ _) | (with_reducible refine Below.setCell ?_ ?_ _) | (with_reducible assumption) | go_size))
  · have e : lvT n = 0 := by unfold lvT; rw [if_neg h]
    rw [e]
    clear e
    by_cases h0 : n < 0
    · clear h
      go_enter Try.func18, Try.ntmps18
      go_wp2_with fail
      go_ret
      exact Ret.mk rfl (by repeat (first | (with_reducible exact Below.refl _ _) | (with_reducible refine bDrewN ?_ _) | (with_reducible refine Below.drew ?_) | (with_reducible refine Below.alloc ?_ ?_ _) | (with_reducible refine Below.setCell ?_ ?_ _) | (with_reducible assumption) | go_size))
    · have h1 : 1000 < n := by omega
      clear h
      go_enter Try.func18, Try.ntmps18
      go_wp2_with fail
      go_ret
      exact Ret.mk rfl (by repeat (first | (with_reducible exact Below.refl _ _) | (with_reducible refine bDrewN ?_ _) | (with_reducible refine Below.drew ?_) | (with_reducible refine Below.alloc ?_ ?_ _) | (with_reducible refine Below.setCell ?_ ?_ _) | (with_reducible assumption) | go_size))
def pw3 (k room : Nat) : Prop := (k = 1 ∧ room = 3) ∨ (k = 2 ∧ room = 9) ∨ (k = 3 ∧ room = 27) ∨ (k = 4 ∧ room = 81) ∨ (k = 5 ∧ room = 243) ∨ (k = 6 ∧ room = 729) ∨ (k = 7 ∧ room = 2187)
theorem pw3_step {k room m : Nat} (h : pw3 k room) (hlt : room < m) (hm : m ≤ 1000) : (pw3 (k + 1) (room * 3) ∧ (k + 1 = 1 ∨ room * 3 < 3 * m)) ∧ k + 1 ≤ 7 ∧ room * 3 ≤ 2187 := by
  unfold pw3 at h ⊢
  rcases h with ⟨rfl, rfl⟩ | ⟨rfl, rfl⟩ | ⟨rfl, rfl⟩ | ⟨rfl, rfl⟩ | ⟨rfl, rfl⟩ | ⟨rfl, rfl⟩ | ⟨rfl, rfl⟩ <;> omega
theorem pw3_end {k room m : Nat} (h : pw3 k room) (h2 : k = 1 ∨ room < 3 * m) (hlt : ¬ room < m) : lvN m = k := by
  unfold pw3 at h
  unfold lvN
  rcases h with ⟨rfl, rfl⟩ | ⟨rfl, rfl⟩ | ⟨rfl, rfl⟩ | ⟨rfl, rfl⟩ | ⟨rfl, rfl⟩ | ⟨rfl, rfl⟩ | ⟨rfl, rfl⟩ <;> (repeat' split) <;> omega
set_option maxRecDepth 100000 in
theorem rlevels_any (n : Int) (w : World) : Calls Try.prog 19 #[.int .i64 n] w (Ret w (.int .i64 (lvT n))) := by
  by_cases h : 0 ≤ n ∧ n ≤ 1000
  · obtain ⟨m, rfl⟩ : ∃ m : Nat, n = m := ⟨n.toNat, by omega⟩
    have e : lvT (m : Int) = (lvN m : Int) := by unfold lvT; rw [if_pos h]; rfl
    rw [e]
    have n1 : ¬ (m : Int) < 0 := by omega
    have n2 : ¬ (1000 : Int) < (m : Int) := by omega
    have HM := Lib.hid h
    clear e h
    go_enter Try.func19, Try.ntmps19
    go_wp2_with fail
    go_loopw [3, 4] (fun s3 s4 wr => ∃ (k room : Nat), s3 = .int .i64 k ∧ s4 = .int .i64 room ∧ k ≤ 7 ∧ 3 ≤ room ∧ room ≤ 2187 ∧ Hid (pw3 k room ∧ (k = 1 ∨ room < 3 * m)) ∧ wr = w) (fun _ r _ => 3000 - (intOf r).toNat)
    case atStart => exact ⟨1, 3, rfl, rfl, by omega, by omega, by omega, Lib.hid ⟨.inl ⟨rfl, rfl⟩, .inl rfl⟩, rfl⟩
    case round =>
      obtain ⟨k, room, rfl, rfl, hk, hr3, hr, hp, rfl⟩ := hrel
      by_cases hlt : room < m
      · have hlt' : (room : Int) < (m : Int) := by omega
        have g1 : IntKind.i64.wrap ((room : Int) * 3) = ((room * 3 : Nat) : Int) := by rw [wrap_small _ (by omega) (by omega)]; omega
        have g5 : IntKind.i64.wrap ((k : Int) + 1) = ((k + 1 : Nat) : Int) := by rw [wrap_small _ (by omega) (by omega)]; omega
        have hp2 : Hid ((pw3 (k + 1) (room * 3) ∧ (k + 1 = 1 ∨ room * 3 < 3 * m)) ∧ k + 1 ≤ 7 ∧ room * 3 ≤ 2187) := Lib.hid (pw3_step hp.out.1 hlt (by have := HM.out; omega))
        clear hp
        go_wp2_with fail
        go_roundw
        case rel => exact ⟨k + 1, room * 3, by go_num, by go_num, hp2.out.2.1, by omega, hp2.out.2.2, Lib.hid hp2.out.1, by trivial⟩
        case measure => simp [intOf]; omega
      · have hlt' : ¬ (room : Int) < (m : Int) := by omega
        have HE := Lib.hid (pw3_end hp.out.1 hp.out.2 hlt)
        clear hp
        go_wp2_with fail
        go_ret
        exact Ret.mk (by rw [HE.out]; rfl) (by repeat (first | (with_reducible exact Below.refl _ _) | (with_reducible refine bDrewN ?_ _) | (with_reducible refine Below.drew ?_) | (with_reducible refine Below.alloc ?_ ?_ _) | (with_reducible refine Below.setCell ?_ ?_ _) | (with_reducible assumption) | go_size))
  · have e : lvT n = 0 := by unfold lvT; rw [if_neg h]
    rw [e]
    clear e
    by_cases h0 : n < 0
    · clear h
      go_enter Try.func19, Try.ntmps19
      go_wp2_with fail
      go_ret
      exact Ret.mk rfl (by repeat (first | (with_reducible exact Below.refl _ _) | (with_reducible refine bDrewN ?_ _) | (with_reducible refine Below.drew ?_) | (with_reducible refine Below.alloc ?_ ?_ _) | (with_reducible refine Below.setCell ?_ ?_ _) | (with_reducible assumption) | go_size))
    · have h1 : 1000 < n := by omega
      clear h
      go_enter Try.func19, Try.ntmps19
      go_wp2_with fail
      go_ret
      exact Ret.mk rfl (by repeat (first | (with_reducible exact Below.refl _ _) | (with_reducible refine bDrewN ?_ _) | (with_reducible refine Below.drew ?_) | (with_reducible refine Below.alloc ?_ ?_ _) | (with_reducible refine Below.setCell ?_ ?_ _) | (with_reducible assumption) | go_size))
end Go.Proofs.Ytcnbonmpocddmaa
