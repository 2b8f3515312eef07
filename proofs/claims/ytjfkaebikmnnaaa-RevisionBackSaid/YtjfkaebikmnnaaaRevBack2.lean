/- RevisionBack: large inputs; the law. -/
import Derived.Test.YtjfkaebikmnnaaaRevBack
namespace Go.Proofs.Ytjfkaebikmnnaaa
set_option linter.unusedSimpArgs false
set_option linter.unusedVariables false
open Go.RowKit Go.ChangeShapes Go.WideShapes Go.Sort
set_option maxHeartbeats 16000000 in
set_option maxRecDepth 100000 in
theorem revBack_big {r : RV} (hr : r.Ok) {next : Int} {A : Option Addr} {n c : Nat} {A0 : Option Addr} {n0 c0 : Nat} (w : World) (h : 50 < n ∨ (¬ 50 < n ∧ 1000 < n0)) : Calls Try.prog 7 #[rvv r, lgv next A n c, .slice A0 n0 c0] w (Ret w (.bool true)) := by
  unfold rvv lgv
  obtain ⟨cs, hcs⟩ : ∃ q, r.cells.toArray = q := ⟨_, rfl⟩
  rw [hcs]
  clear hcs hr
  go_enter Try.func7, Try.ntmps7
  go_upto_region 1 with (fail)
  obtain ⟨W, hW⟩ : ∃ W, (w.alloc (.cells cs 43)).alloc (.cells #[.int .i64 next, .slice A n c] 46) = W := ⟨_, rfl⟩
  try rw [hW]
  have a4 : W.heap[w.heap.size + 1]? = some (.cells #[.int .i64 next, .slice A n c] 46) := by rw [← hW]; exact heap_alloc_two _ _ _
  have hB : Below w.heap.size w W := by rw [← hW]; exact ((Below.refl _ _).alloc (Nat.le_refl _) _).alloc (by simp) _
  clear hW
  have c1 : W.cell? ⟨w.heap.size + 1, 1, none⟩ = some (.slice A n c) := blk_cell a4 rfl
  have HB := Lib.hid hB
  clear a4 hB
  rcases h with h | ⟨h, h'⟩
  all_goals
    go_wp2_with (first
      | (go_at_call 18; refine Calls.mono (wakes24_any _) ?_; rintro e W3 ⟨rfl, hb3⟩)
      | fail)
    go_ret
    exact Ret.mk rfl (HB.out.trans (hb3.mono HB.out.size))
set_option maxRecDepth 100000 in
theorem revisionBack_walk {H : Type} {enc : TypeId × Value → H} {W : World} {base : Nat} {v0 v1 v2 : Value} {d0 d1 d2 : DataW H} {p0 p1 p2 : List MemPlace}
    (k0 : Value.okWide Try.prog W .any base 43 v0) (h0 : DataW.Trod enc Try.prog W 0 (fun _ => true) true 43 v0 d0 p0)
    (k1 : Value.okWide Try.prog W .any base 46 v1) (h1 : DataW.Trod enc Try.prog W 0 (fun _ => true) true 46 v1 d1 p1)
    (k2 : Value.okWide Try.prog W .any base 24 v2) (h2 : DataW.Trod enc Try.prog W 0 (fun _ => true) true 24 v2 d2 p2)
    : Calls Try.prog 7 #[v0, v1, v2] W fun e W' => e = .returned (.bool true) ∧ Below W.heap.size W W' := by
  obtain ⟨r, rfl, hr⟩ := open_rv k0 h0
  obtain ⟨next, A, n, c, l, rfl, hl, hcm, -, -⟩ := open_lg k1 h1
  obtain ⟨A0, n0, c0, b, rfl, -, hn0, hc0, -, hsl⟩ := open_bytes_sl Try.underlying24 Try.underlying5 (by kernel_rfl) k2 h2
  by_cases h : 50 < n
  · exact revBack_big hr W (.inl h)
  · by_cases h' : 1000 < n0
    · exact revBack_big hr W (.inr ⟨h, h'⟩)
    · exact revBack_core hr W hl hcm (by omega) hsl (by omega) hn0 hc0
end Go.Proofs.Ytjfkaebikmnnaaa
