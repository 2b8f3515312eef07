/- A style that may be (the reference's Good). -/
import Derived.Test.YtnojikbecohhfaaBkTot
namespace Go.Proofs.Ytnojikbecohhfaa
set_option linter.unusedSimpArgs false
set_option linter.unusedVariables false
open Go.RowKit

def goodS (a b c d f : Int) : Bool := decide ((40 ≤ a ∧ a ≤ 400) ∧ (3 ≤ b ∧ b ≤ 20) ∧ (0 ≤ c ∧ c ≤ 10000) ∧ (0 ≤ d ∧ d ≤ 1000) ∧ (0 ≤ f ∧ f ≤ 30))
theorem rgood_any (a b c d f : Int) (w : World) :
    Calls Try.prog 23 #[.agg #[.int .i64 a, .int .i64 b, .int .i64 c, .int .i64 d, .int .i64 f]] w (Ret w (.bool (goodS a b c d f))) := by
  have HG : Hid (goodS a b c d f = decide ((40 ≤ a ∧ a ≤ 400) ∧ (3 ≤ b ∧ b ≤ 20) ∧ (0 ≤ c ∧ c ≤ 10000) ∧ (0 ≤ d ∧ d ≤ 1000) ∧ (0 ≤ f ∧ f ≤ 30))) := rfl
  go_enter Try.func23, Try.ntmps23
  go_wp2
  all_goals (go_ret; exact Ret.mk (vbool (by rw [HG.out, Bool.eq_iff_iff]; simp; try omega)) (by repeat (first | (with_reducible exact Below.refl _ _) | (with_reducible refine bDrewN ?_ _) | (with_reducible refine Below.drew ?_) | (with_reducible refine Below.alloc ?_ ?_ _) | (with_reducible refine Below.setCell ?_ ?_ _) | (with_reducible assumption) | go_size)))
end Go.Proofs.Ytnojikbecohhfaa
