/- The walks over package style and its reference. -/
import Derived.Test.YtjfkaebikmnnaaaBase
import Derived.Test.YtjfkaebikmnnaaaChecked
import Derived.Lib.Hide
namespace Go.Proofs.Ytjfkaebikmnnaaa
open Go.RowKit

def btw (n lo hi : Int) : Bool := decide (lo ≤ n ∧ n ≤ hi)
theorem btw_any (n lo hi : Int) (w : World) :
    Calls Try.prog 32 #[.int .i64 n, .int .i64 lo, .int .i64 hi] w fun e w' => e = .returned (.bool (btw n lo hi)) ∧ w = w' := by
  by_cases h : lo ≤ n
  · by_cases h' : n ≤ hi
    · go_enter Try.func32, Try.ntmps32
      go_wp2
      go_ret
      exact ⟨ret_bool (by simp [btw, h, h']), rfl⟩
    · go_enter Try.func32, Try.ntmps32
      go_wp2
      go_ret
      exact ⟨ret_bool (by simp [btw, h, h']), rfl⟩
  · go_enter Try.func32, Try.ntmps32
    go_wp2
    go_ret
    exact ⟨ret_bool (by simp [btw]; omega), rfl⟩

structure Sty where
  w : Int
  h : Int
  t : Int
  c : Int
  i : Int
  deriving DecidableEq
def Sty.val (s : Sty) : Value := .agg #[.int .i64 s.w, .int .i64 s.h, .int .i64 s.t, .int .i64 s.c, .int .i64 s.i]
def Sty.good (s : Sty) : Bool := btw s.w 40 400 && (btw s.h 3 20 && (btw s.t 0 10000 && (btw s.c 0 1000 && btw s.i 0 30)))

theorem good_any (a b c d f : Int) (w : World) :
    Calls Try.prog 15 #[.agg #[.int .i64 a, .int .i64 b, .int .i64 c, .int .i64 d, .int .i64 f]] w (Ret w (.bool (Sty.good ⟨a, b, c, d, f⟩))) := by
  have HG : Hid (Sty.good ⟨a, b, c, d, f⟩ = (btw a 40 400 && (btw b 3 20 && (btw c 0 10000 && (btw d 0 1000 && btw f 0 30))))) := rfl
  go_enter Try.func15, Try.ntmps15
  go_wp2_with (go_at_call 32; refine (btw_any _ _ _ _).mono ?_; rintro e w' ⟨rfl, rfl⟩)
  all_goals (go_ret; exact Ret.mk (vbool (by rw [HG.out]; simp [*])) (by repeat (first | (with_reducible exact Below.refl _ _) | (with_reducible refine bDrewN ?_ _) | (with_reducible refine Below.drew ?_) | (with_reducible refine Below.alloc ?_ ?_ _) | (with_reducible refine Below.setCell ?_ ?_ _) | (with_reducible assumption) | go_size)))
theorem rgood_any (a b c d f : Int) (w : World) :
    Calls Try.prog 16 #[.agg #[.int .i64 a, .int .i64 b, .int .i64 c, .int .i64 d, .int .i64 f]] w (Ret w (.bool (Sty.good ⟨a, b, c, d, f⟩))) := by
  have HG : Hid (Sty.good ⟨a, b, c, d, f⟩ = (btw a 40 400 && (btw b 3 20 && (btw c 0 10000 && (btw d 0 1000 && btw f 0 30))))) := rfl
  go_enter Try.func16, Try.ntmps16
  go_wp2
  all_goals (go_ret; exact Ret.mk (vbool (by rw [HG.out, Bool.eq_iff_iff]; simp [btw]; try omega)) (by repeat (first | (with_reducible exact Below.refl _ _) | (with_reducible refine bDrewN ?_ _) | (with_reducible refine Below.drew ?_) | (with_reducible refine Below.alloc ?_ ?_ _) | (with_reducible refine Below.setCell ?_ ?_ _) | (with_reducible assumption) | go_size)))

end Go.Proofs.Ytjfkaebikmnnaaa
