/- The three statements of layer 15: the walks. -/
import Derived.Test.YtaifbbmobhfjcaaBadWalk
namespace Go.Proofs.Ytaifbbmobhfjcaa
open Go.RowKit Go.ChangeShapes Go.WideShapes

theorem dem_any (b c : Int) (t : Bool) (w : World) :
    Calls Try.prog 17 #[.int .i64 b, .int .i64 c, .bool t] w fun e w' => e = .returned (.int .i64 (dem b c t)) ∧ w = w' := by
  have hb := cutZ_bd b 0 10000 (by omega)
  have hc := cutZ_bd c 0 10000 (by omega)
  have HB : Hid (dem b c t = (10 + cutZ b 0 10000) * (10 + cutZ b 0 10000) + cutZ c 0 10000 * cutZ c 0 10000 + (if t then 3000 else 0)) := rfl
  go_enter Try.func17, Try.ntmps17
  go_wp2_with fail
  refine (cut_any _ _ _ _).mono ?_
  rintro e w' ⟨rfl, rfl⟩
  go_wp2_with fail
  refine (cut_any _ _ _ _).mono ?_
  rintro e w' ⟨rfl, rfl⟩
  generalize cutZ b 0 10000 = B at *
  generalize cutZ c 0 10000 = C at *
  have b1 := sq_bd (show 0 ≤ 10 + B by omega) (m := 10010) (by omega)
  have b2 := sq_bd hc.1 hc.2
  cases t
  · go_wp2
    go_ret
    exact ⟨ret_int (by rw [HB.out]; simp), rfl⟩
  · go_wp2
    go_ret
    exact ⟨ret_int (by rw [HB.out]; simp), rfl⟩
theorem rdem_any (b c : Int) (t : Bool) (w : World) :
    Calls Try.prog 18 #[.int .i64 b, .int .i64 c, .bool t] w fun e w' => e = .returned (.int .i64 (dem b c t)) ∧ w = w' := by
  have hb := cutZ_bd b 0 10000 (by omega)
  have hc := cutZ_bd c 0 10000 (by omega)
  have HB : Hid (dem b c t = (10 + cutZ b 0 10000) * (10 + cutZ b 0 10000) + cutZ c 0 10000 * cutZ c 0 10000 + (if t then 3000 else 0)) := rfl
  go_enter Try.func18, Try.ntmps18
  go_wp2_with fail
  refine (rcut_any _ _ _ _).mono ?_
  rintro e w' ⟨rfl, rfl⟩
  go_wp2_with fail
  refine (rcut_any _ _ _ _).mono ?_
  rintro e w' ⟨rfl, rfl⟩
  generalize cutZ b 0 10000 = B at *
  generalize cutZ c 0 10000 = C at *
  have b1 := sq_bd (show 0 ≤ 10 + B by omega) (m := 10010) (by omega)
  have b2 := sq_bd hc.1 hc.2
  cases t
  · go_wp2
    go_ret
    exact ⟨ret_int (by rw [HB.out]; simp), rfl⟩
  · go_wp2
    go_ret
    exact ⟨ret_int (by rw [HB.out]; simp), rfl⟩

theorem wakes15_any (w : World) : Calls Try.prog 19 #[] w fun e w' => e = .returned (.bool true) ∧ w = w' := by
  have h1 : badOf 2 4 0 = (12, true) := by decide
  have h2 : badOf (-3) 4 3 = (100, true) := by decide
  have h3 : badOf (-4) 4 3 = (0, false) := by decide
  have h4 : badOf 1 0 0 = (10000, true) := by decide
  have h5 : dem 12 50 true = 5984 := by decide
  go_enter Try.func19, Try.ntmps19
  go_wp2_with (first | (go_at_call 15; refine (of_any _ _ _ _).mono ?_; rintro e w' ⟨rfl, rfl⟩) | (go_at_call 17; refine (dem_any _ _ _ _).mono ?_; rintro e w' ⟨rfl, rfl⟩))
  go_ret
  exact ⟨rfl, rfl⟩

theorem badnessTells_core (a b c : Int) (bad cost : Int) (w : World) :
    Calls Try.prog 3 #[.agg #[.int .i64 a, .int .i64 b, .int .i64 c], .int .i64 bad, .int .i64 cost] w fun e w' => e = .returned (.bool true) ∧ Below w.heap.size w w' := by
  go_enter Try.func3, Try.ntmps3
  go_wp2_with fail
  refine (of_any _ _ _ _).mono ?_
  rintro e w' ⟨rfl, rfl⟩
  go_wp2_with fail
  refine (rof_any _ _ _ _).mono ?_
  rintro e w1 ⟨rfl, hb⟩
  obtain ⟨hc, hf⟩ := bReads hb
  have hz : w.heap.size < w1.heap.size := by have := hb.size; simp at this; omega
  go_wp2_with fail
  go_quiet (first | (go_at_call 17; exact q_same (dem_any _ _ _ _)) | (go_at_call 18; exact q_same (rdem_any _ _ _ _)) | (go_at_call 19; exact q_same (wakes15_any _)))
  go_wp2
  go_ret
  exact ⟨rfl, bDrewN (((Below.refl _ _).alloc (Nat.le_refl _) _).trans (((hb.mono (by simp)).alloc (by omega) _))) _⟩

set_option maxRecDepth 100000 in
theorem badnessTells_walk {H : Type} {enc : TypeId × Value → H} {W : World} {base : Nat} {v0 v1 v2 : Value} {d0 d1 d2 : DataW H} {p0 p1 p2 : List MemPlace}
    (k0 : Value.okWide Try.prog W .any base 22 v0) (h0 : DataW.Trod enc Try.prog W 0 (fun _ => true) true 22 v0 d0 p0)
    (k1 : Value.okWide Try.prog W .any base 3 v1) (h1 : DataW.Trod enc Try.prog W 0 (fun _ => true) true 3 v1 d1 p1)
    (k2 : Value.okWide Try.prog W .any base 3 v2) (h2 : DataW.Trod enc Try.prog W 0 (fun _ => true) true 3 v2 d2 p2)
    : Calls Try.prog 3 #[v0, v1, v2] W fun e W' => e = .returned (.bool true) ∧ Below W.heap.size W W' := by
  obtain ⟨l, hl, rfl, _⟩ := open_ints_arr Try.underlying22 Try.underlying3 (by kernel_rfl) (by kernel_rfl) k0 h0
  obtain ⟨bad, rfl, _, _, _⟩ := open_int Try.underlying3 k1 h1
  obtain ⟨cost, rfl, _, _, _⟩ := open_int Try.underlying3 k2 h2
  match l, hl with
  | [a, b, c], _ => exact badnessTells_core a b c bad cost W
end Go.Proofs.Ytaifbbmobhfjcaa
