/- Layer 15: the other two statements: the walks. -/
import Derived.Test.YtaifbbmobhfjcaaBadLaws
namespace Go.Proofs.Ytaifbbmobhfjcaa
open Go.RowKit Go.ChangeShapes Go.WideShapes

theorem of_eq {d y z a : Int} {t : Bool} (h : Hid (badOf d y z = (a, t))) (w : World) :
    Calls Try.prog 15 #[.int .i64 d, .int .i64 y, .int .i64 z] w fun e w' => e = .returned (.tuple #[.int .i64 a, .bool t]) ∧ w = w' := by
  have := of_any d y z w
  rwa [h.out] at this
theorem dem_eq {b c a : Int} {t : Bool} (h : Hid (dem b c t = a)) (w : World) :
    Calls Try.prog 17 #[.int .i64 b, .int .i64 c, .bool t] w fun e w' => e = .returned (.int .i64 a) ∧ w = w' := by
  have := dem_any b c t w
  rwa [h.out] at this

theorem grows_room {n y z e g : Int} (hn : 0 ≤ n ∧ n < 10000) (hy : 0 ≤ y ∧ y < 10000) (he : 0 ≤ e) (hg : 0 ≤ g) :
    ∃ a b c, badOf n y z = (a, true) ∧ badOf (n + e) y z = (b, true) ∧ badOf n (y + g) z = (c, true) ∧ a ≤ b ∧ c ≤ a ∧ 0 ≤ a ∧ b ≤ 10000 := by
  have c1 := cutZ_in n (-10000) 10000 (by omega) (by omega)
  have c2 := cutZ_in y 0 10000 (by omega) (by omega)
  have d1 := cutZ_bd (n + e) (-10000) 10000 (by omega)
  have d1' : n ≤ cutZ (n + e) (-10000) 10000 := by unfold cutZ; omega
  have d2' : y ≤ cutZ (y + g) 0 10000 := by unfold cutZ; omega
  have r1 := badC_room (z := cutZ z 0 10000) hn.1 hy.1
  have r2 := badC_room (z := cutZ z 0 10000) (show 0 ≤ cutZ (n + e) (-10000) 10000 by omega) hy.1
  have r3 := badC_room (z := cutZ z 0 10000) hn.1 (show 0 ≤ cutZ (y + g) 0 10000 by omega)
  refine ⟨(badOf n y z).1, (badOf (n + e) y z).1, (badOf n (y + g) z).1, ?_, ?_, ?_, ?_, ?_, ?_, ?_⟩ <;> simp only [badOf, c1, c2]
  · rw [← r1.1]
  · rw [← r2.1]
  · rw [← r3.1]
  · exact badC_more hn.1 d1' hy.1
  · exact badC_glue hn.1 hy.1 d2'
  · exact r1.2.1
  · exact r2.2.2
theorem grows_press {n y z e k : Int} (hn : 0 ≤ n ∧ n < 10000) (hz : 0 ≤ z ∧ z < 10000) (he : 0 ≤ e) (hk : 0 ≤ k) :
    ∃ p q r, badOf (-n) y z = (p, decide (n ≤ z)) ∧ badOf (-n - e) y z = (q, decide (n + e ≤ z)) ∧ badOf (-n) y (z + k) = (r, decide (n ≤ z + k)) ∧ 0 ≤ p ∧ p ≤ 100 ∧ (n + e ≤ z → p ≤ q) ∧ (n ≤ z → r ≤ p) := by
  have c1 := cutZ_in (-n) (-10000) 10000 (by omega) (by omega)
  have c2 := cutZ_in z 0 10000 (by omega) (by omega)
  obtain ⟨E, hE, hE1, hE2, hE3⟩ : ∃ E, cutZ (-n - e) (-10000) 10000 = -E ∧ n ≤ E ∧ (E ≤ z ↔ n + e ≤ z) ∧ 0 ≤ E := ⟨-(cutZ (-n - e) (-10000) 10000), by omega, by unfold cutZ; omega, by unfold cutZ; omega, by unfold cutZ; omega⟩
  obtain ⟨K, hK, hK1, hK2⟩ : ∃ K, cutZ (z + k) 0 10000 = K ∧ z ≤ K ∧ (n ≤ K ↔ n ≤ z + k) := ⟨_, rfl, by unfold cutZ; omega, by unfold cutZ; omega⟩
  have r1 := badC_press (y := cutZ y 0 10000) hn.1 hz.1
  have r2 := badC_press (y := cutZ y 0 10000) hE3 hz.1
  have r3 := badC_press (y := cutZ y 0 10000) hn.1 (show 0 ≤ K by omega)
  refine ⟨(badOf (-n) y z).1, (badOf (-n - e) y z).1, (badOf (-n) y (z + k)).1, ?_, ?_, ?_, ?_, ?_, ?_, ?_⟩ <;> simp only [badOf, c1, c2, hE, hK]
  · rw [← r1.1]
  · rw [← decide_eq_decide.2 hE2, ← r2.1]
  · rw [← decide_eq_decide.2 hK2, ← r3.1]
  · exact r1.2.1
  · exact r1.2.2
  · intro h; exact badC_pressMore hn.1 hE1 (hE2.2 h)
  · intro h; exact badC_pressGlue hn.1 h hK1

set_option maxHeartbeats 1000000 in
set_option maxRecDepth 100000 in
theorem badnessGrows_core (d0 d1 d2 m0 m1 m2 x0 x1 : Int) (hd0 : 0 ≤ d0 ∧ d0 ≤ 65535) (hd1 : 0 ≤ d1 ∧ d1 ≤ 65535) (hd2 : 0 ≤ d2 ∧ d2 ≤ 65535) (hm0 : 0 ≤ m0 ∧ m0 ≤ 65535) (hm1 : 0 ≤ m1 ∧ m1 ≤ 65535) (hm2 : 0 ≤ m2 ∧ m2 ≤ 65535)
    (hx0 : 0 ≤ x0 ∧ x0 ≤ 65535) (hx1 : 0 ≤ x1 ∧ x1 ≤ 65535) (w : World) :
    Calls Try.prog 4 #[.agg #[.int .u16 d0, .int .u16 d1, .int .u16 d2], .agg #[.int .u16 m0, .int .u16 m1, .int .u16 m2], .agg #[.int .u16 x0, .int .u16 x1]] w fun e w' => e = .returned (.bool true) ∧ Below w.heap.size w w' := by
  obtain ⟨a, b, c, h1, h2, h3, i1, i2, i3, i4⟩ := grows_room (n := d0 % 10000) (y := d1 % 10000) (z := d2 % 10000) (e := m0 % 1000) (g := m1 % 1000) (by omega) (by omega) (by omega) (by omega)
  obtain ⟨p, q, r, h4, h5, h6, j1, j2, j3, j4⟩ := grows_press (n := d0 % 10000) (y := d1 % 10000) (z := d2 % 10000) (e := m0 % 1000) (k := m2 % 1000) (by omega) (by omega) (by omega) (by omega)
  obtain ⟨D, hD⟩ : ∃ D, dem (x0 % 10000) (x1 % 10000) false = D := ⟨_, rfl⟩
  obtain ⟨D1, hD1⟩ : ∃ D, dem (x0 % 10000 + 1) (x1 % 10000) false = D := ⟨_, rfl⟩
  obtain ⟨D2, hD2⟩ : ∃ D, dem (x0 % 10000) (x1 % 10000 + 1) false = D := ⟨_, rfl⟩
  have l1 : D < D1 := by rw [← hD, ← hD1]; exact dem_bad _ _ (by omega) (by omega)
  have l2 : D < D2 := by rw [← hD, ← hD2]; exact dem_cost _ _ (by omega) (by omega)
  have l3 : 100 ≤ D ∧ D < 100000000000 := by rw [← hD]; exact dem_bd _ _ _
  have hD3 : dem (x0 % 10000) (x1 % 10000) true = D + 3000 := by rw [← hD]; exact dem_twice _ _
  have H1 : Hid _ := h1
  have H2 : Hid _ := h2
  have H3 : Hid _ := h3
  have HD : Hid _ := hD
  have HD1 : Hid _ := hD1
  have HD2 : Hid _ := hD2
  have HD3 : Hid _ := hD3
  clear h1 h2 h3 hD hD1 hD2 hD3
  by_cases k1 : d0 % 10000 + m0 % 1000 ≤ d2 % 10000
  · have k2 : d0 % 10000 ≤ d2 % 10000 := by omega
    have k3 : d0 % 10000 ≤ d2 % 10000 + m2 % 1000 := by omega
    rw [decide_eq_true k1] at h5
    rw [decide_eq_true k2] at h4
    rw [decide_eq_true k3] at h6
    have H4 : Hid _ := h4
    have H5 : Hid _ := h5
    have H6 : Hid _ := h6
    have j3' := j3 k1
    have j4' := j4 k2
    clear h4 h5 h6 j3 j4
    go_enter Try.func4, Try.ntmps4
    go_wp2_with fail
    go_quiet (fail)
    go_wp2_with fail
    refine (of_eq H1 _).mono ?_
    rintro e w' ⟨rfl, rfl⟩
    go_wp2_with fail
    refine (of_eq H2 _).mono ?_
    rintro e w' ⟨rfl, rfl⟩
    go_wp2_with fail
    refine (of_eq H3 _).mono ?_
    rintro e w' ⟨rfl, rfl⟩
    go_wp2_with fail
    refine (of_eq H4 _).mono ?_
    rintro e w' ⟨rfl, rfl⟩
    go_wp2_with fail
    refine (of_eq H5 _).mono ?_
    rintro e w' ⟨rfl, rfl⟩
    go_wp2_with fail
    refine (of_eq H6 _).mono ?_
    rintro e w' ⟨rfl, rfl⟩
    go_wp2_with fail
    go_quiet (fail)
    go_wp2_with fail
    refine (dem_eq HD _).mono ?_
    rintro e w' ⟨rfl, rfl⟩
    go_wp2_with fail
    refine (dem_eq HD1 _).mono ?_
    rintro e w' ⟨rfl, rfl⟩
    go_wp2_with fail
    refine (dem_eq HD2 _).mono ?_
    rintro e w' ⟨rfl, rfl⟩
    go_wp2_with fail
    refine (dem_eq HD3 _).mono ?_
    rintro e w' ⟨rfl, rfl⟩
    go_wp2_with fail
    refine (wakes15_any _).mono ?_
    rintro e w' ⟨rfl, rfl⟩
    go_wp2
    go_ret
    exact ⟨rfl, (by repeat (first | (with_reducible exact Below.refl _ _) | (with_reducible refine bDrewN ?_ _) | (with_reducible refine Below.drew ?_) | (with_reducible refine Below.alloc ?_ ?_ _) | (with_reducible refine Below.setCell ?_ ?_ _) | go_size))⟩
  by_cases k2 : d0 % 10000 ≤ d2 % 10000
  · have k3 : d0 % 10000 ≤ d2 % 10000 + m2 % 1000 := by omega
    rw [decide_eq_false k1] at h5
    rw [decide_eq_true k2] at h4
    rw [decide_eq_true k3] at h6
    have H4 : Hid _ := h4
    have H5 : Hid _ := h5
    have H6 : Hid _ := h6
    have j4' := j4 k2
    clear h4 h5 h6 j3 j4
    go_enter Try.func4, Try.ntmps4
    go_wp2_with fail
    go_quiet (fail)
    go_wp2_with fail
    refine (of_eq H1 _).mono ?_
    rintro e w' ⟨rfl, rfl⟩
    go_wp2_with fail
    refine (of_eq H2 _).mono ?_
    rintro e w' ⟨rfl, rfl⟩
    go_wp2_with fail
    refine (of_eq H3 _).mono ?_
    rintro e w' ⟨rfl, rfl⟩
    go_wp2_with fail
    refine (of_eq H4 _).mono ?_
    rintro e w' ⟨rfl, rfl⟩
    go_wp2_with fail
    refine (of_eq H5 _).mono ?_
    rintro e w' ⟨rfl, rfl⟩
    go_wp2_with fail
    refine (of_eq H6 _).mono ?_
    rintro e w' ⟨rfl, rfl⟩
    go_wp2_with fail
    go_quiet (fail)
    go_wp2_with fail
    refine (dem_eq HD _).mono ?_
    rintro e w' ⟨rfl, rfl⟩
    go_wp2_with fail
    refine (dem_eq HD1 _).mono ?_
    rintro e w' ⟨rfl, rfl⟩
    go_wp2_with fail
    refine (dem_eq HD2 _).mono ?_
    rintro e w' ⟨rfl, rfl⟩
    go_wp2_with fail
    refine (dem_eq HD3 _).mono ?_
    rintro e w' ⟨rfl, rfl⟩
    go_wp2_with fail
    refine (wakes15_any _).mono ?_
    rintro e w' ⟨rfl, rfl⟩
    go_wp2
    go_ret
    exact ⟨rfl, (by repeat (first | (with_reducible exact Below.refl _ _) | (with_reducible refine bDrewN ?_ _) | (with_reducible refine Below.drew ?_) | (with_reducible refine Below.alloc ?_ ?_ _) | (with_reducible refine Below.setCell ?_ ?_ _) | go_size))⟩
  · rw [decide_eq_false k1] at h5
    rw [decide_eq_false k2] at h4
    obtain ⟨jj, hjj⟩ : ∃ jj, decide (d0 % 10000 ≤ d2 % 10000 + m2 % 1000) = jj := ⟨_, rfl⟩
    rw [hjj] at h6
    have H4 : Hid _ := h4
    have H5 : Hid _ := h5
    have H6 : Hid _ := h6
    clear h4 h5 h6 j3 j4 hjj
    go_enter Try.func4, Try.ntmps4
    go_wp2_with fail
    go_quiet (fail)
    go_wp2_with fail
    refine (of_eq H1 _).mono ?_
    rintro e w' ⟨rfl, rfl⟩
    go_wp2_with fail
    refine (of_eq H2 _).mono ?_
    rintro e w' ⟨rfl, rfl⟩
    go_wp2_with fail
    refine (of_eq H3 _).mono ?_
    rintro e w' ⟨rfl, rfl⟩
    go_wp2_with fail
    refine (of_eq H4 _).mono ?_
    rintro e w' ⟨rfl, rfl⟩
    go_wp2_with fail
    refine (of_eq H5 _).mono ?_
    rintro e w' ⟨rfl, rfl⟩
    go_wp2_with fail
    refine (of_eq H6 _).mono ?_
    rintro e w' ⟨rfl, rfl⟩
    go_wp2_with fail
    go_quiet (fail)
    go_wp2_with fail
    refine (dem_eq HD _).mono ?_
    rintro e w' ⟨rfl, rfl⟩
    go_wp2_with fail
    refine (dem_eq HD1 _).mono ?_
    rintro e w' ⟨rfl, rfl⟩
    go_wp2_with fail
    refine (dem_eq HD2 _).mono ?_
    rintro e w' ⟨rfl, rfl⟩
    go_wp2_with fail
    refine (dem_eq HD3 _).mono ?_
    rintro e w' ⟨rfl, rfl⟩
    go_wp2_with fail
    refine (wakes15_any _).mono ?_
    rintro e w' ⟨rfl, rfl⟩
    go_wp2
    go_ret
    exact ⟨rfl, (by repeat (first | (with_reducible exact Below.refl _ _) | (with_reducible refine bDrewN ?_ _) | (with_reducible refine Below.drew ?_) | (with_reducible refine Below.alloc ?_ ?_ _) | (with_reducible refine Below.setCell ?_ ?_ _) | go_size))⟩

theorem scales_plain {n g k : Int} (hn : 0 ≤ n ∧ n ≤ 255) (hg : 1 ≤ g ∧ g ≤ 256) (hk : 1 ≤ k ∧ k ≤ 9) :
    ∃ a, badOf n g 0 = (a, true) ∧ badOf (k * n) (k * g) 0 = (a, true) ∧ badOf (k * g) (k * g) 7 = (100, true) ∧ badOf 0 g g = (0, true) ∧ badOf (-k * g) 0 (k * g) = (100, true) := by
  have b1 : 0 ≤ k * n ∧ k * n ≤ 2295 := ⟨Int.mul_nonneg (by omega) (by omega), Int.mul_le_mul hk.2 hn.2 hn.1 (by omega)⟩
  have b2 : 0 < k * g ∧ k * g ≤ 2304 := ⟨Int.mul_pos (by omega) (by omega), Int.mul_le_mul hk.2 hg.2 (by omega) (by omega)⟩
  have r := badC_room (z := 0) hn.1 (show 0 ≤ g by omega)
  refine ⟨(badOf n g 0).1, ?_, ?_, ?_, ?_, ?_⟩
  · simp only [badOf, cutZ_in n (-10000) 10000 (by omega) (by omega), cutZ_in g 0 10000 (by omega) (by omega), cutZ_in 0 0 10000 (by omega) (by omega)]
    rw [← r.1]
  · simp only [badOf, cutZ_in n (-10000) 10000 (by omega) (by omega), cutZ_in g 0 10000 (by omega) (by omega), cutZ_in (k * n) (-10000) 10000 (by omega) (by omega), cutZ_in (k * g) 0 10000 (by omega) (by omega), cutZ_in 0 0 10000 (by omega) (by omega)]
    rw [badC_scale _ hn.1 (by omega) (by omega), ← r.1]
  · simp only [badOf, cutZ_in (k * g) (-10000) 10000 (by omega) (by omega), cutZ_in (k * g) 0 10000 (by omega) (by omega)]
    exact badC_even _ b2.1
  · simp only [badOf, cutZ_in 0 (-10000) 10000 (by omega) (by omega)]
    exact badC_zero _ _
  · simp only [badOf, Int.neg_mul, cutZ_in (-(k * g)) (-10000) 10000 (by omega) (by omega), cutZ_in (k * g) 0 10000 (by omega) (by omega)]
    exact badC_evenPress _ b2.1

set_option maxHeartbeats 1000000 in
set_option maxRecDepth 100000 in
theorem badnessScales_core (d y t : Int) (hd : 0 ≤ d ∧ d ≤ 255) (hy : 0 ≤ y ∧ y ≤ 255) (ht : 0 ≤ t ∧ t ≤ 255) (w : World) :
    Calls Try.prog 5 #[.int .u8 d, .int .u8 y, .int .u8 t] w fun e w' => e = .returned (.bool true) ∧ Below w.heap.size w w' := by
  obtain ⟨a, h1, h2, h3, h4, h5⟩ := scales_plain (n := d) (g := 1 + y) (k := 1 + t % 9) hd (by omega) (by omega)
  have b0 : 1 ≤ 1 + t % 9 ∧ 1 + t % 9 ≤ 9 := by omega
  have b1 : 0 ≤ (1 + t % 9) * d ∧ (1 + t % 9) * d ≤ 2295 := ⟨Int.mul_nonneg (by omega) (by omega), Int.mul_le_mul (b := d) (d := 255) b0.2 hd.2 hd.1 (by omega)⟩
  have b2 : 0 < (1 + t % 9) * (1 + y) ∧ (1 + t % 9) * (1 + y) ≤ 2304 := ⟨Int.mul_pos (by omega) (by omega), Int.mul_le_mul (b := 1 + y) (d := 256) b0.2 (by omega) (by omega) (by omega)⟩
  have b3 : -2304 ≤ -(1 + t % 9) * (1 + y) ∧ -(1 + t % 9) * (1 + y) ≤ 0 := by rw [Int.neg_mul]; omega
  have H1 : Hid _ := h1
  have H2 : Hid _ := h2
  have H3 : Hid _ := h3
  have H4 : Hid _ := h4
  have H5 : Hid _ := h5
  clear h1 h2 h3 h4 h5
  go_enter Try.func5, Try.ntmps5
  go_wp2_with fail
  refine (of_eq H1 _).mono ?_
  rintro e w' ⟨rfl, rfl⟩
  go_wp2_with fail
  refine (of_eq H2 _).mono ?_
  rintro e w' ⟨rfl, rfl⟩
  go_wp2_with fail
  refine (of_eq H3 _).mono ?_
  rintro e w' ⟨rfl, rfl⟩
  go_wp2_with fail
  refine (of_eq H4 _).mono ?_
  rintro e w' ⟨rfl, rfl⟩
  go_wp2_with fail
  refine (of_eq H5 _).mono ?_
  rintro e w' ⟨rfl, rfl⟩
  go_wp2_with fail
  refine (wakes15_any _).mono ?_
  rintro e w' ⟨rfl, rfl⟩
  go_wp2
  go_ret
  exact ⟨rfl, (by repeat (first | (with_reducible exact Below.refl _ _) | (with_reducible refine bDrewN ?_ _) | (with_reducible refine Below.drew ?_) | (with_reducible refine Below.alloc ?_ ?_ _) | (with_reducible refine Below.setCell ?_ ?_ _) | go_size))⟩

set_option maxRecDepth 100000 in
theorem badnessGrows_walk {H : Type} {enc : TypeId × Value → H} {W : World} {base : Nat} {v0 v1 v2 : Value} {d0 d1 d2 : DataW H} {p0 p1 p2 : List MemPlace}
    (k0 : Value.okWide Try.prog W .any base 32 v0) (h0 : DataW.Trod enc Try.prog W 0 (fun _ => true) true 32 v0 d0 p0)
    (k1 : Value.okWide Try.prog W .any base 32 v1) (h1 : DataW.Trod enc Try.prog W 0 (fun _ => true) true 32 v1 d1 p1)
    (k2 : Value.okWide Try.prog W .any base 33 v2) (h2 : DataW.Trod enc Try.prog W 0 (fun _ => true) true 33 v2 d2 p2)
    : Calls Try.prog 4 #[v0, v1, v2] W fun e W' => e = .returned (.bool true) ∧ Below W.heap.size W W' := by
  obtain ⟨l, hl, rfl, hw⟩ := open_ints_arr Try.underlying32 Try.underlying31 (by kernel_rfl) (by kernel_rfl) k0 h0
  obtain ⟨l1, hl1, rfl, hw1⟩ := open_ints_arr Try.underlying32 Try.underlying31 (by kernel_rfl) (by kernel_rfl) k1 h1
  obtain ⟨l2, hl2, rfl, hw2⟩ := open_ints_arr Try.underlying33 Try.underlying31 (by kernel_rfl) (by kernel_rfl) k2 h2
  match l, hl, l1, hl1, l2, hl2 with
  | [a, b, c], _, [x, y, z], _, [p, q], _ =>
    exact badnessGrows_core a b c x y z p q (wf_u16 (hw a (by simp))) (wf_u16 (hw b (by simp))) (wf_u16 (hw c (by simp))) (wf_u16 (hw1 x (by simp))) (wf_u16 (hw1 y (by simp))) (wf_u16 (hw1 z (by simp))) (wf_u16 (hw2 p (by simp))) (wf_u16 (hw2 q (by simp))) W

set_option maxRecDepth 100000 in
theorem badnessScales_walk {H : Type} {enc : TypeId × Value → H} {W : World} {base : Nat} {v0 v1 v2 : Value} {d0 d1 d2 : DataW H} {p0 p1 p2 : List MemPlace}
    (k0 : Value.okWide Try.prog W .any base 5 v0) (h0 : DataW.Trod enc Try.prog W 0 (fun _ => true) true 5 v0 d0 p0)
    (k1 : Value.okWide Try.prog W .any base 5 v1) (h1 : DataW.Trod enc Try.prog W 0 (fun _ => true) true 5 v1 d1 p1)
    (k2 : Value.okWide Try.prog W .any base 5 v2) (h2 : DataW.Trod enc Try.prog W 0 (fun _ => true) true 5 v2 d2 p2)
    : Calls Try.prog 5 #[v0, v1, v2] W fun e W' => e = .returned (.bool true) ∧ Below W.heap.size W W' := by
  obtain ⟨a, rfl, _, _, wa⟩ := open_int Try.underlying5 k0 h0
  obtain ⟨b, rfl, _, _, wb⟩ := open_int Try.underlying5 k1 h1
  obtain ⟨c, rfl, _, _, wc⟩ := open_int Try.underlying5 k2 h2
  exact badnessScales_core a b c (wf_u8 wa) (wf_u8 wb) (wf_u8 wc) W
end Go.Proofs.Ytaifbbmobhfjcaa
