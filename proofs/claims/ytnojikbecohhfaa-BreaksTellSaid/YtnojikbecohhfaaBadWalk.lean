/- The walks over package badness and its reference: what each call hands back. -/
import Derived.Test.YtnojikbecohhfaaBase
import Derived.Test.YtnojikbecohhfaaBadPlain
import Derived.Test.YtnojikbecohhfaaChecked
namespace Go.Proofs.Ytnojikbecohhfaa
open Go.RowKit

theorem cut_any (n lo hi : Int) (w : World) :
    Calls Try.prog 56 #[.int .i64 n, .int .i64 lo, .int .i64 hi] w fun e w' => e = .returned (.int .i64 (cutZ n lo hi)) ∧ w = w' := by
  go_enter Try.func56, Try.ntmps56
  go_wp2
  all_goals (go_ret; exact ⟨ret_int (by unfold cutZ; omega), rfl⟩)
theorem rcut_any (n lo hi : Int) (w : World) :
    Calls Try.prog 49 #[.int .i64 n, .int .i64 lo, .int .i64 hi] w fun e w' => e = .returned (.int .i64 (cutZ n lo hi)) ∧ w = w' := by
  go_enter Try.func49, Try.ntmps49
  go_wp2
  all_goals (go_ret; exact ⟨ret_int (by unfold cutZ; omega), rfl⟩)
theorem cube_any (n : Int) (h0 : 0 ≤ n) (h1 : n ≤ 10000) (w : World) :
    Calls Try.prog 57 #[.int .i64 n] w fun e w' => e = .returned (.int .i64 (n * n * n)) ∧ w = w' := by
  have b2 := sq_bd h0 h1
  have b3 := cube_bd h0 h1
  go_enter Try.func57, Try.ntmps57
  go_wp2
  go_ret
  exact ⟨rfl, rfl⟩

theorem of_any (d y z : Int) (w : World) :
    Calls Try.prog 51 #[.int .i64 d, .int .i64 y, .int .i64 z] w fun e w' => e = .returned (.tuple #[.int .i64 (badOf d y z).1, .bool (badOf d y z).2]) ∧ w = w' := by
  have hd := cutZ_bd d (-10000) 10000 (by omega)
  have hy := cutZ_bd y 0 10000 (by omega)
  have hz := cutZ_bd z 0 10000 (by omega)
  have HB : Hid (badOf d y z = badC (cutZ d (-10000) 10000) (cutZ y 0 10000) (cutZ z 0 10000)) := rfl
  go_enter Try.func51, Try.ntmps51
  go_wp2_with fail
  refine (cut_any _ _ _ _).mono ?_
  rintro e w' ⟨rfl, rfl⟩
  go_wp2_with fail
  refine (cut_any _ _ _ _).mono ?_
  rintro e w' ⟨rfl, rfl⟩
  go_wp2_with fail
  refine (cut_any _ _ _ _).mono ?_
  rintro e w' ⟨rfl, rfl⟩
  generalize cutZ d (-10000) 10000 = D at *
  generalize cutZ y 0 10000 = Y at *
  generalize cutZ z 0 10000 = Z at *
  by_cases h1 : D = 0
  · subst h1
    go_wp2
    go_ret2
    exact ⟨ret_int_bool (by rw [HB.out, badC_zero]) (by rw [HB.out, badC_zero]), rfl⟩
  by_cases h2 : 0 < D
  · by_cases h3 : Y = 0
    · subst h3
      have e1 : (D == 0) = false := by simpa using h1
      go_wp2
      go_ret2
      exact ⟨ret_int_bool (by rw [HB.out, badC_full h2]) (by rw [HB.out, badC_full h2]), rfl⟩
    · have e1 : (D == 0) = false := by simpa using h1
      have e3 : (Y == 0) = false := by simpa using h3
      have b1 := cube_bd (show 0 ≤ D by omega) hd.2
      have b2 := cube_bd hy.1 hy.2
      have b3 := cube_pos (show 0 < Y by omega)
      go_wp2_with (go_at_call 57; refine (cube_any _ (by omega) (by omega) _).mono ?_; rintro e w' ⟨rfl, rfl⟩)
      all_goals (go_ret2; exact ⟨ret_int_bool (by rw [HB.out, badC_pos h2 (by omega)]; simp only []; omega) (by rw [HB.out, badC_pos h2 (by omega)]), rfl⟩)
  · have e1 : (D == 0) = false := by simpa using h1
    obtain ⟨E, rfl⟩ : ∃ E, D = -E := ⟨-D, by omega⟩
    have b1 := cube_bd (show 0 ≤ E by omega) (m := 10000) (by omega)
    by_cases h3 : Z < E
    · go_wp2
      go_ret2
      exact ⟨ret_int_bool (by rw [HB.out, badC_over Y (by omega) h3]) (by rw [HB.out, badC_over Y (by omega) h3]), rfl⟩
    · have b2 := cube_bd hz.1 hz.2
      have b3 := cube_pos (show 0 < Z by omega)
      go_wp2_with (go_at_call 57; refine (cube_any _ (by omega) (by omega) _).mono ?_; rintro e w' ⟨rfl, rfl⟩)
      go_ret2
      exact ⟨ret_int_bool (by rw [HB.out, badC_neg Y (by omega) (by omega)]) (by rw [HB.out, badC_neg Y (by omega) (by omega)]), rfl⟩

theorem rof_any (d y z : Int) (w : World) :
    Calls Try.prog 40 #[.int .i64 d, .int .i64 y, .int .i64 z] w (Ret w (.agg #[.int .i64 (badOf d y z).1, .bool (badOf d y z).2])) := by
  have hd := cutZ_bd d (-10000) 10000 (by omega)
  have hy := cutZ_bd y 0 10000 (by omega)
  have hz := cutZ_bd z 0 10000 (by omega)
  have HB : Hid (badOf d y z = badC (cutZ d (-10000) 10000) (cutZ y 0 10000) (cutZ z 0 10000)) := rfl
  go_enter Try.func40, Try.ntmps40
  go_wp2_with fail
  refine (rcut_any _ _ _ _).mono ?_
  rintro e w' ⟨rfl, rfl⟩
  go_wp2_with fail
  refine (rcut_any _ _ _ _).mono ?_
  rintro e w' ⟨rfl, rfl⟩
  go_wp2_with fail
  refine (rcut_any _ _ _ _).mono ?_
  rintro e w' ⟨rfl, rfl⟩
  generalize cutZ d (-10000) 10000 = D at *
  generalize cutZ y 0 10000 = Y at *
  generalize cutZ z 0 10000 = Z at *
  by_cases h1 : D = 0
  · subst h1
    go_wp2
    go_returns
    exact Ret.mk (agg_int_bool (by rw [HB.out, badC_zero]) (by rw [HB.out, badC_zero])) (by go_grown)
  by_cases h2 : 0 < D
  · by_cases h3 : Y = 0
    · subst h3
      have e1 : (D == 0) = false := by simpa using h1
      go_wp2
      go_returns
      exact Ret.mk (agg_int_bool (by rw [HB.out, badC_full h2]) (by rw [HB.out, badC_full h2])) (by go_grown)
    · have e1 : (D == 0) = false := by simpa using h1
      have e3 : (Y == 0) = false := by simpa using h3
      have b0 := cube_bd (show 0 ≤ D by omega) hd.2
      have b1 : 0 ≤ 100 * D * D * D ∧ 100 * D * D * D ≤ 100000000000000 := by
        rw [show 100 * D * D * D = 100 * (D * D * D) from by simp only [Int.mul_assoc]]; omega
      have b2 := cube_bd hy.1 hy.2
      have b3 := cube_pos (show 0 < Y by omega)
      have b4 := sq_bd hy.1 hy.2
      have b5 : 0 ≤ 100 * D * D ∧ 100 * D * D ≤ 10000000000 := by
        have := sq_bd (show 0 ≤ D by omega) hd.2
        rw [Int.mul_assoc]; omega
      go_wp2
      all_goals (go_returns; exact Ret.mk (agg_int_bool (by rw [HB.out, badC_pos h2 (by omega)]; simp only [Int.mul_assoc] at *; omega) (by rw [HB.out, badC_pos h2 (by omega)])) (by go_grown))
  · have e1 : (D == 0) = false := by simpa using h1
    obtain ⟨E, rfl⟩ : ∃ E, D = -E := ⟨-D, by omega⟩
    by_cases h3 : Z < E
    · go_wp2
      go_returns
      exact Ret.mk (agg_int_bool (by rw [HB.out, badC_over Y (by omega) h3]) (by rw [HB.out, badC_over Y (by omega) h3])) (by go_grown)
    · have b0 := cube_bd (show 0 ≤ E by omega) (m := 10000) (by omega)
      have b1 : 0 ≤ 100 * E * E * E ∧ 100 * E * E * E ≤ 100000000000000 := by
        rw [show 100 * E * E * E = 100 * (E * E * E) from by simp only [Int.mul_assoc]]; omega
      have b2 := cube_bd hz.1 hz.2
      have b3 := cube_pos (show 0 < Z by omega)
      have b4 := sq_bd hz.1 hz.2
      have b5 : 0 ≤ 100 * E * E ∧ 100 * E * E ≤ 10000000000 := by
        have := sq_bd (show 0 ≤ E by omega) (m := 10000) (by omega)
        rw [Int.mul_assoc]; omega
      go_wp2
      go_returns
      exact Ret.mk (agg_int_bool (by rw [HB.out, badC_neg Y (by omega) (by omega)]; simp only [Int.mul_assoc]) (by rw [HB.out, badC_neg Y (by omega) (by omega)])) (by go_grown)
end Go.Proofs.Ytnojikbecohhfaa
