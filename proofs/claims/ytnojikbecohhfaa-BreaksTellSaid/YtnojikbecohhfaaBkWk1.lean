/- The wakes of layer 17 (s10/bkwakes.py writes it). -/
import Derived.Test.YtnojikbecohhfaaBkTot
import Derived.Test.YtnojikbecohhfaaMsrKeep
namespace Go.Proofs.Ytnojikbecohhfaa
set_option linter.unusedSimpArgs false
set_option linter.unusedVariables false
open Go.RowKit Go.Sort

def wbox (v : Int) (t : ByteArray) : It := ⟨1, v, 0, 0, 0, t⟩
def wsp : It := ⟨2, 4, 2, 1, 0, ByteArray.empty⟩
def ec (x : It) : Array Value := #[.int .i64 x.kind, .int .i64 x.w, .int .i64 x.y, .int .i64 x.z, .int .i64 x.cost, .string x.text]
def it0 : It := ⟨0, 0, 0, 0, 0, ByteArray.empty⟩
theorem itZ : ZeroIs Try.prog 53 (ec it0) := by unfold ZeroIs; kernel_rfl
theorem it_size (x : It) : (Try.prog.info? 53).map (·.size) = some (ec x).size := by
  show _ = some 6
  kernel_rfl
theorem ec_one (x : It) : (ec x).all (·.oneCell') = true := by simp [ec, Value.oneCell']
theorem built_box (v : Int) (t : ByteArray) : Try.prog.built 53 [(0, .int .i64 1), (1, .int .i64 v), (5, .string t)] = some (ec (wbox v t)) := by kernel_rfl
theorem built_sp : Try.prog.built 53 [(0, .int .i64 2), (1, .int .i64 4), (2, .int .i64 2), (3, .int .i64 1)] = some (ec wsp) := by kernel_rfl
set_option maxHeartbeats 4000000 in
set_option maxRecDepth 100000 in
theorem box_any (v : Int) (t : ByteArray) (w : World) : Calls Try.prog 25 #[.int .i64 v, .string t] w (Ret w (.agg (ec (wbox v t)))) := by
  have hz := itZ
  have hb := built_box v t
  obtain ⟨z0, hz0⟩ : ∃ q, ec it0 = q := ⟨_, rfl⟩
  obtain ⟨c0, hc0⟩ : ∃ q, ec (wbox v t) = q := ⟨_, rfl⟩
  have hi : (Try.prog.info? 53).map (·.size) = some c0.size := by rw [← hc0]; exact it_size _
  have h1 : c0.all (·.oneCell') = true := by rw [← hc0]; exact ec_one _
  have hs : z0.size = c0.size := by rw [← hc0, ← hz0]; rfl
  rw [hz0] at hz
  rw [hc0] at hb ⊢
  clear hz0 hc0
  obtain ⟨Y, hY, y4, bY⟩ := newRow w z0 c0 53
  go_enter Try.func25, Try.ntmps25
  go_wp2_with (first
    | (refine wpList_new rfl hz rfl ?_)
    | (refine wpList_built rfl 53 #[(0, .const (.int .i64 1)), (1, .tmp 5), (5, .tmp 6)] rfl (cs := c0) (by simp only [List.map_toArray, List.map_cons, List.map_nil]; exact hb) ?_)
    | (refine wpList_store_row rfl 53 (.tmp 4) (.tmp 7) rfl _ c0 rfl rfl _ z0 (heap_alloc_new _ _) hi hs h1 ?_)
    | fail)
  try rw [hY]
  have hld := run_loadVar_row (P := Try.prog) Y _ _ 53 _ _ _ y4 Try.underlying53 rfl hi
  refine bodyPost_ret (by simp [results, Try.results25, Act.put, asAddr, Result.andThen, hld]; try rfl) rfl ?_
  exact Ret.mk rfl bY
set_option maxHeartbeats 4000000 in
set_option maxRecDepth 100000 in
theorem space_any (w : World) : Calls Try.prog 24 #[] w (Ret w (.agg (ec wsp))) := by
  have hz := itZ
  have hb := built_sp
  obtain ⟨z0, hz0⟩ : ∃ q, ec it0 = q := ⟨_, rfl⟩
  obtain ⟨c0, hc0⟩ : ∃ q, ec wsp = q := ⟨_, rfl⟩
  have hi : (Try.prog.info? 53).map (·.size) = some c0.size := by rw [← hc0]; exact it_size _
  have h1 : c0.all (·.oneCell') = true := by rw [← hc0]; exact ec_one _
  have hs : z0.size = c0.size := by rw [← hc0, ← hz0]; rfl
  rw [hz0] at hz
  rw [hc0] at hb ⊢
  clear hz0 hc0
  obtain ⟨Y, hY, y4, bY⟩ := newRow w z0 c0 53
  go_enter Try.func24, Try.ntmps24
  go_wp2_with (first
    | (refine wpList_new rfl hz rfl ?_)
    | (refine wpList_built rfl 53 #[(0, .const (.int .i64 2)), (1, .const (.int .i64 4)), (2, .const (.int .i64 2)), (3, .const (.int .i64 1))] rfl (cs := c0) (by simp only [List.map_toArray, List.map_cons, List.map_nil]; exact hb) ?_)
    | (refine wpList_store_row rfl 53 (.tmp 0) (.tmp 1) rfl _ c0 rfl rfl _ z0 (heap_alloc_new _ _) hi hs h1 ?_)
    | fail)
  try rw [hY]
  have hld := run_loadVar_row (P := Try.prog) Y _ _ 53 _ _ _ y4 Try.underlying53 rfl hi
  refine bodyPost_ret (by simp [results, Try.results24, Act.put, asAddr, Result.andThen, hld]; try rfl) rfl ?_
  exact Ret.mk rfl bY
def L7 : List It := [wbox 20 ⟨#[97]⟩, wsp, wbox 16 ⟨#[98]⟩, wsp, wbox 20 ⟨#[99]⟩, wsp, wbox 5 ⟨#[100]⟩]
def L1 : List It := [wbox 50 ⟨#[97]⟩]
theorem w_best : bestP L7 (cutS 40) (cutS 200) = ⟨[3, 7], 200, 0⟩ ∧ bestP L1 (cutS 40) (cutS 200) = ⟨[1], 1000000000000, 1⟩ ∧ bestP [] (cutS 40) (cutS 200) = wy0 := by decide +kernel
theorem w_walk : walkP L7 (cutS 40) (cutS 200) [3, 7] = some (⟨[3, 7], 200, 0⟩, true) ∧ walkP L7 (cutS 40) (cutS 200) [2, 7] = none := by decide +kernel
theorem encs_ec (x : It) (l : List It) : (ec x).toList ++ encs l = encs (x :: l) := rfl
end Go.Proofs.Ytnojikbecohhfaa

