/- Plain numbers: how bad a line is, its demerits; no program in sight. -/
import Derived.RowKit
namespace Go.Proofs.Ytnojikbecohhfaa
open Go.RowKit

/-- A number cut between two others. -/
def cutZ (n lo hi : Int) : Int := max lo (min n hi)
theorem cutZ_bd (n lo hi : Int) (h : lo ≤ hi) : lo ≤ cutZ n lo hi ∧ cutZ n lo hi ≤ hi := by unfold cutZ; omega
theorem cutZ_in (n lo hi : Int) (h : lo ≤ n) (h' : n ≤ hi) : cutZ n lo hi = n := by unfold cutZ; omega

/-- How bad: of cut numbers. -/
def badC (d y z : Int) : Int × Bool :=
  if d = 0 then (0, true) else if 0 < d ∧ y = 0 then (10000, true)
  else if 0 < d then (min (100 * (d * d * d) / (y * y * y)) 10000, true)
  else if z < -d then (0, false) else (100 * (-d * -d * -d) / (z * z * z), true)
def badOf (d y z : Int) : Int × Bool := badC (cutZ d (-10000) 10000) (cutZ y 0 10000) (cutZ z 0 10000)
def dem (bad cost : Int) (twice : Bool) : Int :=
  (10 + cutZ bad 0 10000) * (10 + cutZ bad 0 10000) + cutZ cost 0 10000 * cutZ cost 0 10000 + (if twice then 3000 else 0)

theorem sq_bd {a : Int} (h0 : 0 ≤ a) {m : Int} (h : a ≤ m) : 0 ≤ a * a ∧ a * a ≤ m * m :=
  ⟨Int.mul_nonneg h0 h0, Int.mul_le_mul h h h0 (by omega)⟩
theorem cube_bd {a : Int} (h0 : 0 ≤ a) {m : Int} (h : a ≤ m) : 0 ≤ a * a * a ∧ a * a * a ≤ m * m * m := by
  obtain ⟨h1, h2⟩ := sq_bd h0 h
  have hm : 0 ≤ m := Int.le_trans h0 h
  exact ⟨Int.mul_nonneg h1 h0, Int.mul_le_mul h2 h h0 (Int.mul_nonneg hm hm)⟩
theorem cube_mono {a b : Int} (h0 : 0 ≤ a) (h : a ≤ b) : a * a * a ≤ b * b * b := (cube_bd h0 h).2
theorem cube_pos {a : Int} (h0 : 0 < a) : 0 < a * a * a := Int.mul_pos (Int.mul_pos h0 h0) h0
theorem cube_neg (a : Int) : -a * -a * -a = -(a * a * a) := by rw [Int.neg_mul_neg, Int.mul_neg]

theorem div_mono_num {a b c : Int} (h : a ≤ b) (hc : 0 < c) : a / c ≤ b / c := Int.ediv_le_ediv hc h
theorem div_mono_den {a c d : Int} (ha : 0 ≤ a) (hc : 0 < c) (h : c ≤ d) : a / d ≤ a / c := by
  have hd : 0 < d := by omega
  rw [Int.le_ediv_iff_mul_le hc]
  have h1 : a / d * c ≤ a / d * d := Int.mul_le_mul_of_nonneg_left h (Int.ediv_nonneg ha (by omega))
  have h2 : a / d * d ≤ a := Int.ediv_mul_le a (by omega)
  omega

/-! of a line that has room -/
theorem badC_pos {d y : Int} (hd : 0 < d) (hy : 0 < y) (z : Int) : badC d y z = (min (100 * (d * d * d) / (y * y * y)) 10000, true) := by
  unfold badC; rw [if_neg (by omega), if_neg (by omega), if_pos hd]
theorem badC_full {d : Int} (hd : 0 < d) (z : Int) : badC d 0 z = (10000, true) := by
  unfold badC; rw [if_neg (by omega), if_pos ⟨hd, rfl⟩]
theorem badC_zero (y z : Int) : badC 0 y z = (0, true) := by simp [badC]
theorem badC_neg {d z : Int} (y : Int) (hd : 0 < d) (h : d ≤ z) : badC (-d) y z = (100 * (d * d * d) / (z * z * z), true) := by
  unfold badC; rw [if_neg (by omega), if_neg (by omega), if_neg (by omega), if_neg (by omega), Int.neg_neg]
theorem badC_over {d z : Int} (y : Int) (hd : 0 < d) (h : z < d) : badC (-d) y z = (0, false) := by
  unfold badC; rw [if_neg (by omega), if_neg (by omega), if_neg (by omega), if_pos (by omega)]

theorem badC_room {d y z : Int} (hd : 0 ≤ d) (hy : 0 ≤ y) : (badC d y z).2 = true ∧ 0 ≤ (badC d y z).1 ∧ (badC d y z).1 ≤ 10000 := by
  by_cases h0 : d = 0
  · subst h0; rw [badC_zero]; simp
  · by_cases hy0 : y = 0
    · subst hy0; rw [badC_full (by omega)]; simp
    · rw [badC_pos (by omega) (by omega)]
      have h1 : 0 ≤ 100 * (d * d * d) / (y * y * y) := Int.ediv_nonneg (by have := (cube_bd hd (Int.le_refl d)).1; omega) (by have := cube_pos (show 0 < y by omega); omega)
      refine ⟨rfl, ?_, ?_⟩ <;> simp only [] <;> omega
theorem badC_more {d e y z : Int} (hd : 0 ≤ d) (h : d ≤ e) (hy : 0 ≤ y) : (badC d y z).1 ≤ (badC e y z).1 := by
  by_cases h0 : d = 0
  · subst h0; rw [badC_zero]; exact (badC_room (by omega) hy).2.1
  · by_cases hy0 : y = 0
    · subst hy0; rw [badC_full (by omega), badC_full (by omega)]; simp
    · rw [badC_pos (by omega) (by omega), badC_pos (by omega) (by omega)]
      have := div_mono_num (c := y * y * y) (show 100 * (d * d * d) ≤ 100 * (e * e * e) by have := cube_mono hd h; omega) (cube_pos (by omega))
      simp only []; omega
theorem badC_glue {d y x z : Int} (hd : 0 ≤ d) (hy : 0 ≤ y) (h : y ≤ x) : (badC d x z).1 ≤ (badC d y z).1 := by
  by_cases h0 : d = 0
  · subst h0; rw [badC_zero, badC_zero]; simp
  · by_cases hy0 : y = 0
    · subst hy0; rw [badC_full (d := d) (by omega)]; exact (badC_room hd (by omega)).2.2
    · rw [badC_pos (by omega) (by omega), badC_pos (by omega) (by omega)]
      have := div_mono_den (a := 100 * (d * d * d)) (by have := (cube_bd hd (Int.le_refl d)).1; omega) (cube_pos (show 0 < y by omega)) (cube_mono hy h)
      simp only []; omega
theorem badC_press {d y z : Int} (hd : 0 ≤ d) (hz : 0 ≤ z) : (badC (-d) y z).2 = decide (d ≤ z) ∧ 0 ≤ (badC (-d) y z).1 ∧ (badC (-d) y z).1 ≤ 100 := by
  by_cases h0 : d = 0
  · subst h0; rw [show (-0 : Int) = 0 from rfl, badC_zero]; simp; omega
  · by_cases h : d ≤ z
    · rw [badC_neg y (by omega) h]
      have h1 : 0 < z * z * z := cube_pos (by omega)
      have h2 := cube_mono hd h
      have h3 := (cube_bd hd (Int.le_refl d)).1
      refine ⟨by simp [h], Int.ediv_nonneg (by omega) (by omega), ?_⟩
      simp only []
      have := Int.ediv_le_ediv h1 (show 100 * (d * d * d) ≤ 100 * (z * z * z) by omega)
      rw [Int.mul_ediv_cancel _ (by omega)] at this
      exact this
    · rw [badC_over y (by omega) (by omega)]; simp; omega
theorem badC_pressMore {d e y z : Int} (hd : 0 ≤ d) (h : d ≤ e) (hz : e ≤ z) : (badC (-d) y z).1 ≤ (badC (-e) y z).1 := by
  by_cases h0 : d = 0
  · subst h0; rw [show (-0 : Int) = 0 from rfl, badC_zero]; exact (badC_press (by omega) (by omega)).2.1
  · rw [badC_neg y (by omega) (by omega), badC_neg y (by omega) hz]
    exact div_mono_num (by have := cube_mono hd h; omega) (cube_pos (by omega))
theorem badC_pressGlue {d y z x : Int} (hd : 0 ≤ d) (h : d ≤ z) (hz : z ≤ x) : (badC (-d) y x).1 ≤ (badC (-d) y z).1 := by
  by_cases h0 : d = 0
  · subst h0; rw [show (-0 : Int) = 0 from rfl, badC_zero, badC_zero]; simp
  · rw [badC_neg y (by omega) (by omega), badC_neg y (by omega) h]
    exact div_mono_den (by have := (cube_bd hd (Int.le_refl d)).1; omega) (cube_pos (by omega)) (cube_mono (by omega) hz)

theorem sq_lt {a b : Int} (h0 : 0 ≤ a) (h : a < b) : a * a < b * b := by
  have h1 : a * a ≤ a * b := Int.mul_le_mul_of_nonneg_left (by omega) h0
  have h2 : a * b < b * b := Int.mul_lt_mul_of_pos_right h (by omega)
  omega
theorem dem_bd (bad cost : Int) (t : Bool) : 100 ≤ dem bad cost t ∧ dem bad cost t < 100000000000 := by
  have hb := cutZ_bd bad 0 10000 (by omega)
  have hc := cutZ_bd cost 0 10000 (by omega)
  have h1 := sq_bd (a := 10 + cutZ bad 0 10000) (m := 10010) (by omega) (by omega)
  have h1' := sq_bd (a := 10) (m := 10 + cutZ bad 0 10000) (by omega) (by omega)
  have h2 := sq_bd (a := cutZ cost 0 10000) (m := 10000) (by omega) (by omega)
  unfold dem
  split <;> omega
theorem dem_twice (bad cost : Int) : dem bad cost true = dem bad cost false + 3000 := by simp [dem]
theorem dem_bad {p : Int} (q : Int) (t : Bool) (h0 : 0 ≤ p) (h : p < 10000) : dem p q t < dem (p + 1) q t := by
  unfold dem
  rw [cutZ_in p _ _ (by omega) (by omega), cutZ_in (p + 1) _ _ (by omega) (by omega)]
  have := sq_lt (a := 10 + p) (b := 10 + (p + 1)) (by omega) (by omega)
  omega
theorem dem_cost {q : Int} (p : Int) (t : Bool) (h0 : 0 ≤ q) (h : q < 10000) : dem p q t < dem p (q + 1) t := by
  unfold dem
  rw [cutZ_in q _ _ (by omega) (by omega), cutZ_in (q + 1) _ _ (by omega) (by omega)]
  have := sq_lt (a := q) (b := q + 1) (by omega) (by omega)
  omega

/-! scaled -/
theorem cube_mul (k n : Int) : (k * n) * (k * n) * (k * n) = (k * k * k) * (n * n * n) := by
  have e : ∀ a b c d : Int, (a * b) * (c * d) = (a * c) * (b * d) := fun a b c d => by
    rw [Int.mul_assoc, Int.mul_assoc, ← Int.mul_assoc b, Int.mul_comm b c, Int.mul_assoc c]
  rw [e k n k n, e (k * k) (n * n) k n]
theorem badC_scale {n g k : Int} (z : Int) (hn : 0 ≤ n) (hg : 0 < g) (hk : 0 < k) : badC (k * n) (k * g) z = badC n g z := by
  by_cases h0 : n = 0
  · subst h0; rw [Int.mul_zero, badC_zero, badC_zero]
  · rw [badC_pos (Int.mul_pos hk (by omega)) (Int.mul_pos hk hg), badC_pos (by omega) hg, cube_mul, cube_mul,
      show 100 * (k * k * k * (n * n * n)) = k * k * k * (100 * (n * n * n)) from by rw [← Int.mul_assoc, Int.mul_comm 100, Int.mul_assoc],
      Int.mul_ediv_mul_of_pos _ _ (cube_pos hk)]
theorem badC_even {g : Int} (z : Int) (hg : 0 < g) : badC g g z = (100, true) := by
  rw [badC_pos hg hg, Int.mul_ediv_cancel _ (by have := cube_pos hg; omega)]; rfl
theorem badC_evenPress {g : Int} (y : Int) (hg : 0 < g) : badC (-g) y g = (100, true) := by
  rw [badC_neg y hg (Int.le_refl g), Int.mul_ediv_cancel _ (by have := cube_pos hg; omega)]
end Go.Proofs.Ytnojikbecohhfaa
