/- The walk over SuperNone. -/
import Derived.Test.YtnkdbkgihemjnaaSupArg
namespace Go.Proofs.Ytnkdbkgihemjnaa
set_option linter.unusedSimpArgs false
set_option linter.unusedVariables false
open Go.RowKit Go.ChangeShapes Go.WideShapes Go.Sort

set_option maxHeartbeats 16000000 in
set_option maxRecDepth 100000 in
theorem superNone_core {s : SP} (hs : s.Ok) (w : World) : Calls Try.prog 11 #[spv s] w (Ret w (.bool true)) := by
  have hnw := fun W => newest_nil W
  have hwr := fun W => sput_nil hs W
  have hwk := fun W => wakes07_any W
  have i2 := sp_info hs
  have hin : (Try.prog.info? 38).map (·.size) = some sp0.cells.toArray.size := sp_info sp0_ok
  have hsm := fun w => sp_same sp0_ok w
  unfold spv at hnw hwr
  unfold spv
  obtain ⟨cs, hcs⟩ : ∃ cs, s.cells.toArray = cs := ⟨_, rfl⟩
  rw [hcs] at i2 hwr
  rw [hcs]
  clear hcs
  have hz : Try.prog.built 38 [] = some sp0.cells.toArray := built_sp0
  have hz2 : ZeroIs Try.prog 38 sp0.cells.toArray := spZ
  have ho : ∀ u ∈ sp0.cells, u.oneCell' = true := one_sp sp0
  generalize sp0.cells = z0 at *
  go_enter Try.func11, Try.ntmps11
  go_upto_region 1 with (fail)
  obtain ⟨W, hW⟩ : ∃ W, w.alloc (.cells cs 38) = W := ⟨_, rfl⟩
  try rw [hW]
  have a1 : W.heap[w.heap.size]? = some (.cells cs 38) := by rw [← hW]; exact heap_alloc_new _ _
  have hB : Below w.heap.size w W := by rw [← hW]; exact (Below.refl _ _).alloc (Nat.le_refl _) _
  clear hW
  go_wp2_with fail
  refine Calls.mono (hnw _) ?_
  rintro e W1 ⟨rfl, hb1⟩
  have a11 := bBlk hb1 (Array.getElem?_eq_some_iff.1 a1).1 a1
  obtain ⟨Y, hY, a3, bY⟩ := newRow W1 z0.toArray z0.toArray 38
  have a12 := bBlk bY (Array.getElem?_eq_some_iff.1 a11).1 a11
  have hB2 := hB.trans ((hb1.trans (bY.mono hb1.size)).mono hB.size)
  clear a1 a11 hB hb1 bY hnw
  go_upto_region 2 with (first
    | (refine wpList_new rfl hz2 rfl ?_)
    | (refine wpList_store_row rfl 38 (.tmp 3) (.tmp 7) rfl _ z0.toArray rfl rfl _ z0.toArray (heap_alloc_new _ _) hin rfl (all_oneCell_toArray ho) ?_)
    | fail)
  try rw [hY]
  clear hY
  go_wp2_with (first
    | (refine wpList_load_row rfl 38 (.tmp 3) rfl _ rfl _ z0.toArray (0, 0) _ a3 Try.underlying38 rfl hin ?_)
    | (refine wpList_built rfl 38 #[] rfl (cs := z0.toArray) (by simp only [List.map_toArray, List.map_nil]; exact hz) ?_)
    | (refine wpList_load_row_g (by simp [Region.wanted, yielded, Act.put]) 38 (.tmp 1) rfl _ rfl _ cs (0, 0) _ a12 Try.underlying38 rfl i2 ?_)
    | (go_at_call 19; refine Calls.mono (hwr _) ?_; rintro e W2 ⟨rfl, hb2⟩)
    | (go_at_call 16; refine Calls.mono (hwk _) ?_; rintro e W3 ⟨rfl, hb3⟩)
    | fail)
  go_ret
  exact Ret.mk rfl (hB2.trans ((hb2.trans (hb3.mono hb2.size)).mono hB2.size))

set_option maxRecDepth 100000 in
theorem superNone_walk {H : Type} {enc : TypeId × Value → H} {W : World} {base : Nat} {v0 : Value} {d0 : DataW H} {p0 : List MemPlace}
    (k0 : Value.okWide Try.prog W .any base 38 v0) (h0 : DataW.Trod enc Try.prog W 0 (fun _ => true) true 38 v0 d0 p0)
    : Calls Try.prog 11 #[v0] W fun e W' => e = .returned (.bool true) ∧ Below W.heap.size W W' := by
  obtain ⟨s, rfl, hs⟩ := open_sp k0 h0
  exact superNone_core hs W
end Go.Proofs.Ytnkdbkgihemjnaa
