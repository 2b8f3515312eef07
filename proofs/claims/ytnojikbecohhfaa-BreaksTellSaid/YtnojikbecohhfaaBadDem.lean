
/- The three statements of layer 15: the walks. -/
import Derived.Test.YtnojikbecohhfaaBadWalk
namespace Go.Proofs.Ytnojikbecohhfaa
open Go.RowKit Go.ChangeShapes Go.WideShapes

theorem dem_any (b c : Int) (t : Bool) (w : World) :
    Calls Try.prog 52 #[.int .i64 b, .int .i64 c, .bool t] w fun e w' => e = .returned (.int .i64 (dem b c t)) ∧ w = w' := by
  have hb := cutZ_bd b 0 10000 (by omega)
  have hc := cutZ_bd c 0 10000 (by omega)
  have HB : Hid (dem b c t = (10 + cutZ b 0 10000) * (10 + cutZ b 0 10000) + cutZ c 0 10000 * cutZ c 0 10000 + (if t then 3000 else 0)) := rfl
  go_enter Try.func52, Try.ntmps52
  go_wp2_with fail
  refine (cut_any _ _ _ _).mono ?_
  rintro e w' ⟨rfl, rfl⟩
  go_wp2_with fail
  refine (cut_any _ _ _ _).mono ?_
  rintro e w' ⟨rfl, rfl⟩
  generalize cutZ b 0 10000 = B at *
  generalize cutZ c 0 10000 = C at *
  have b1 := sq_bd (show 0 ≤ 10 + B by omega) (m := 10010) (by omega)
  have b2 := sq_bd hc.1 hc.2
  cases t
  · go_wp2
    go_ret
    exact ⟨ret_int (by rw [HB.out]; simp), rfl⟩
  · go_wp2
    go_ret
    exact ⟨ret_int (by rw [HB.out]; simp), rfl⟩
theorem rdem_any (b c : Int) (t : Bool) (w : World) :
    Calls Try.prog 41 #[.int .i64 b, .int .i64 c, .bool t] w fun e w' => e = .returned (.int .i64 (dem b c t)) ∧ w = w' := by
  have hb := cutZ_bd b 0 10000 (by omega)
  have hc := cutZ_bd c 0 10000 (by omega)
  have HB : Hid (dem b c t = (10 + cutZ b 0 10000) * (10 + cutZ b 0 10000) + cutZ c 0 10000 * cutZ c 0 10000 + (if t then 3000 else 0)) := rfl
  go_enter Try.func41, Try.ntmps41
  go_wp2_with fail
  refine (rcut_any _ _ _ _).mono ?_
  rintro e w' ⟨rfl, rfl⟩
  go_wp2_with fail
  refine (rcut_any _ _ _ _).mono ?_
  rintro e w' ⟨rfl, rfl⟩
  generalize cutZ b 0 10000 = B at *
  generalize cutZ c 0 10000 = C at *
  have b1 := sq_bd (show 0 ≤ 10 + B by omega) (m := 10010) (by omega)
  have b2 := sq_bd hc.1 hc.2
  cases t
  · go_wp2
    go_ret
    exact ⟨ret_int (by rw [HB.out]; simp), rfl⟩
  · go_wp2
    go_ret
    exact ⟨ret_int (by rw [HB.out]; simp), rfl⟩

end Go.Proofs.Ytnojikbecohhfaa
