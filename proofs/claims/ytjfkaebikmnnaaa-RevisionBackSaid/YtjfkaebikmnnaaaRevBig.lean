/- The ways of RevisionCodes that ask nothing but the wakes. -/
import Derived.Test.YtjfkaebikmnnaaaRevWakes
import Derived.Test.YtjfkaebikmnnaaaRevArg
namespace Go.Proofs.Ytjfkaebikmnnaaa
set_option linter.unusedSimpArgs false
set_option linter.unusedVariables false
open Go.RowKit Go.ChangeShapes Go.WideShapes Go.Sort
set_option maxHeartbeats 16000000 in
set_option maxRecDepth 100000 in
theorem revCodes_big {r : RV} (hr : r.Ok) {next : Int} {A : Option Addr} {n c : Nat} {A0 : Option Addr} {n0 c0 : Nat} (w : World) (h : 50 < n ∨ (¬ 50 < n ∧ 1000 < n0)) : Calls Try.prog 6 #[rvv r, lgv next A n c, .slice A0 n0 c0] w (Ret w (.bool true)) := by
  unfold rvv lgv
  obtain ⟨cs, hcs⟩ : ∃ q, r.cells.toArray = q := ⟨_, rfl⟩
  rw [hcs]
  clear hcs hr
  go_enter Try.func6, Try.ntmps6
  go_upto_region 1 with (fail)
  obtain ⟨W, hW⟩ : ∃ W, (w.alloc (.cells cs 43)).alloc (.cells #[.int .i64 next, .slice A n c] 46) = W := ⟨_, rfl⟩
  try rw [hW]
  have a4 : W.heap[w.heap.size + 1]? = some (.cells #[.int .i64 next, .slice A n c] 46) := by rw [← hW]; exact heap_alloc_two _ _ _
  have hB : Below w.heap.size w W := by rw [← hW]; exact ((Below.refl _ _).alloc (Nat.le_refl _) _).alloc (by simp) _
  clear hW
  have c1 : W.cell? ⟨w.heap.size + 1, 1, none⟩ = some (.slice A n c) := blk_cell a4 rfl
  have HB := Lib.hid hB
  clear a4 hB
  rcases h with h | ⟨h, h'⟩
  all_goals
    go_wp2_with (first
      | (go_at_call 18; refine Calls.mono (wakes24_any _) ?_; rintro e W3 ⟨rfl, hb3⟩)
      | fail)
    go_ret
    exact Ret.mk rfl (HB.out.trans (hb3.mono HB.out.size))
end Go.Proofs.Ytjfkaebikmnnaaa
