
/- The walks over disk.New, Write, and codexkeep.Fill. -/
import Derived.Test.YtnkdbkgihemjnaaDskWalk
import Derived.Deep.RegionLaw
import Derived.Test.YtnkdbkgihemjnaaBig
namespace Go.Proofs.Ytnkdbkgihemjnaa
set_option linter.unusedSimpArgs false
set_option linter.unusedVariables false
open Go.RowKit

/-! ### New -/
theorem blk_zero : (Try.prog.info? 40).map (fun i => (i.zero, i.size, i.bytes)) = some (some (.agg (bvs zblk).toArray), 128, 128) := by kernel_rfl
theorem made_rep {m : Nat} (hm : 0 < m) (v : Value) (n : Nat) : madeCells (List.replicate m v).toArray n = (List.replicate n v).toArray := by
  have hg : ∀ j, (List.replicate m v).toArray[j % (List.replicate m v).toArray.size]! = v := fun j => by
    have h0 : (List.replicate m v).toArray.size = m := by rw [List.size_toArray, List.length_replicate]
    rw [getElem!_pos _ _ (by rw [h0]; exact Nat.mod_lt _ hm), List.getElem_toArray, List.getElem_replicate]
  have e : madeCells (List.replicate m v).toArray n = (Array.range n).map (fun _ => v) := by
    unfold madeCells
    congr 1
    funext x
    exact hg x
  rw [e]
  apply Array.ext
  · simp
  · intro i h1 h2
    simp
theorem bvs_rep (m : Nat) : bvs (List.replicate m 0) = List.replicate m (.int .u8 0) := by
  unfold bvs; rw [List.map_replicate]; rfl
theorem bcs_rep (n : Nat) : bcs (List.replicate n zblk) = List.replicate (n * 128) (.int .u8 0) := by
  induction n with
  | zero => simp [bcs]
  | succ n ih =>
    unfold bcs at *
    rw [List.replicate_succ, List.flatMap_cons, ih, Nat.succ_mul, Nat.add_comm, ← List.replicate_append_replicate]
    unfold zblk
    rw [bvs_rep]
theorem made_zero (n : Nat) : madeCells (bvs zblk).toArray (n * 128) = (bcs (List.replicate n zblk)).toArray := by
  rw [bcs_rep]
  unfold zblk
  rw [bvs_rep, made_rep (by omega)]
theorem make_blocks {n : Nat} (hn : n ≤ 128) (w : World) : (Instr.makeSlice 50 (.int .i64 n) (.int .i64 n)).run Try.prog w = .ok (.slice (some ⟨w.heap.size, 0, none⟩) n n) (w.alloc (.cells (bcs (List.replicate n zblk)).toArray 40)) := by
  have h := blk_zero
  cases hq : Try.prog.info? 40 with
  | none => rw [hq] at h; cases h
  | some i =>
    rw [hq] at h
    have hz : i.zero = some (.agg (bvs zblk).toArray) := by have := h; simp only [Option.map_some, Option.some.injEq, Prod.mk.injEq] at this; exact this.1
    have hs : i.size = 128 := by have := h; simp only [Option.map_some, Option.some.injEq, Prod.mk.injEq] at this; exact this.2.1
    have hb : i.bytes = 128 := by have := h; simp only [Option.map_some, Option.some.injEq, Prod.mk.injEq] at this; exact this.2.2
    have := run_make (P := Try.prog) w 50 40 i _ (by kernel_rfl) hq hz .i64 .i64 n n (by omega) (by omega) (by rw [hb]; omega) (by omega)
    rw [this, hs]
    simp only [Value.cells, Int.toNat_natCast, made_zero]

theorem new_any (n : Nat) (h1 : 16 ≤ n) (h2 : n ≤ 128) (w : World) :
    Calls Try.prog 17 #[.int .i64 n] w fun e w' => e = .returned (.tuple #[dp (w.heap.size + 1), .int .i64 0]) ∧ Dk w' w.heap.size (w.heap.size + 1) w.heap.size (.slice none 0 0) (DS.new n) ∧ Below w.heap.size w w' := by
  have hmk := fun W => make_blocks h2 W
  have g1 : ¬ (n : Int) < 16 := by omega
  have g2 : ¬ (128 : Int) < n := by omega
  go_enter Try.func17, Try.ntmps17
  go_wp2_with fail
  go_ret2
  refine ⟨by simp [dp], ⟨?_, ?_, ?_, by omega, by omega, by omega, by simp [Value.ownBlock], by simp [Value.ownBlock], DS.new_ok h1 h2⟩, (by repeat (first | (with_reducible exact Below.refl _ _) | (with_reducible refine bDrewN ?_ _) | (with_reducible refine Below.drew ?_) | (with_reducible refine Below.alloc ?_ ?_ _) | (with_reducible refine Below.setCell ?_ ?_ _) | (with_reducible assumption) | go_size))⟩
  · rw [heap_alloc_two]; simp [dkCells, dkHead, DS.new]
  · exact (Below.heap_alloc _ _ _ (by simp)).trans (heap_alloc_new _ _)
  · exact World.ownsRow_nil _ _ _ _
theorem new_arg (n : Int) (h : n < 16 ∨ 128 < n) (w : World) :
    Calls Try.prog 17 #[.int .i64 n] w fun e w' => e = .returned (.tuple #[.pointer none, .int .i64 1]) ∧ w = w' := by
  go_enter Try.func17, Try.ntmps17
  by_cases g1 : n < 16
  · go_wp2_with fail
    go_ret2
    exact ⟨rfl, rfl⟩
  · have g2 : (128 : Int) < n := by omega
    go_wp2_with fail
    go_ret2
    exact ⟨rfl, rfl⟩

/-! ### Fill -/
theorem zblk_cells : (bvs zblk).toArray.size = 128 := by rw [List.size_toArray, bvs_len]; simp [zblk]
theorem blkZ : ZeroIs Try.prog 40 (bvs zblk).toArray := by
  unfold ZeroIs; rw [show (bvs zblk).toArray.size = 128 from zblk_cells]; kernel_rfl
theorem bk_size : (Try.prog.info? 40).map (·.size) = some 128 := by kernel_rfl
theorem bk_info {b : Blk} (hb : b.length = 128) : (Try.prog.info? 40).map (·.size) = some (bvs b).toArray.size := by rw [List.size_toArray, bvs_len, hb]; exact bk_size
theorem bk_len {b : Blk} (hb : b.length = 128) : (Try.prog.info? 40).map (·.size) = some (bvs b).length := by rw [bvs_len, hb]; exact bk_size
def filled (x : UInt8) (i : Nat) : Blk := List.replicate i x ++ List.replicate (128 - i) 0
theorem filled_len (x : UInt8) {i : Nat} (h : i ≤ 128) : (filled x i).length = 128 := by simp [filled]; omega
theorem filled_set (x : UInt8) {i : Nat} (h : i < 128) : (bvs (filled x i)).toArray.setIfInBounds i (bv x) = (bvs (filled x (i + 1))).toArray := by
  have e : (filled x i).set i x = filled x (i + 1) := by
    unfold filled
    rw [show 128 - i = (128 - (i + 1)) + 1 from by omega, List.replicate_succ, List.set_append, if_neg (by simp), List.length_replicate, Nat.sub_self, List.set_cons_zero, List.replicate_succ', List.append_assoc]
    rfl
  rw [← e, List.setIfInBounds_toArray]
  simp [bvs, List.map_set]
def fillB (x : UInt8) : Blk := List.replicate 128 x
theorem fillB_len (x : UInt8) : (fillB x).length = 128 := by simp [fillB]
theorem filled_all (x : UInt8) : filled x 128 = fillB x := by simp [filled, fillB]
theorem filled_none (x : UInt8) : filled x 0 = zblk := by simp [filled, zblk]

set_option maxHeartbeats 2000000 in
set_option maxRecDepth 100000 in
theorem fill_any (x : UInt8) (w : World) : Calls Try.prog 51 #[bv x] w (Ret w (bkv (fillB x))) := by
  unfold bkv bv
  go_enter Try.func51, Try.ntmps51
  have hzb := zblk_cells
  go_wp2_with (first | (refine wpList_new rfl blkZ rfl ?_) | fail)
  generalize hW : World.alloc (World.alloc w _) _ = W
  have bZ : W.heap[w.heap.size]? = some (.cells (bvs zblk).toArray 40) := by rw [← hW]; exact (Below.heap_alloc _ _ _ (by simp)).trans (heap_alloc_new _ _)
  have bX : W.heap[w.heap.size + 1]? = some (.cells (bvs (filled x 0)).toArray 40) := by rw [← hW, filled_none]; exact heap_alloc_two _ _ _
  have hB : Below w.heap.size w W := by rw [← hW]; exact ((Below.refl _ _).alloc (Nat.le_refl _) _).alloc (by simp) _
  clear hW
  go_loopw [4] (fun i wr => ∃ k : Nat, i = .int .i64 k ∧ k ≤ 128 ∧ wr.heap[w.heap.size]? = some (.cells (bvs zblk).toArray 40) ∧ wr.heap[w.heap.size + 1]? = some (.cells (bvs (filled x k)).toArray 40) ∧ Below w.heap.size w wr) (fun i _ => 128 - (intOf i).toNat)
  case atStart => exact ⟨0, rfl, by omega, bZ, bX, hB⟩
  case round =>
    clear bZ bX hB
    obtain ⟨k, rfl, hk, bZ, bX, hB⟩ := hrel
    by_cases hlt : k < 128
    · have g1 : (k : Int) < 128 := by omega
      have hc : (bvs (filled x k)).toArray[k]? = some ((bvs (filled x k)).toArray[k]'(by rw [List.size_toArray, bvs_len, filled_len x hk]; exact hlt)) := Array.getElem?_eq_getElem _
      have c1 := blk_cell bX hc
      have f1 := blk_frozen bX k
      have HPUT := Lib.hid (filled_set x hlt)
      generalize (bvs (filled x k)).toArray[k]'_ = old at c1
      clear hc
      go_wp2_with fail
      generalize hX : World.setCell _ _ _ = X
      have bXX : X.heap[w.heap.size + 1]? = some (.cells (bvs (filled x (k + 1))).toArray 40) := by rw [← hX, ← HPUT.out]; exact blk_set bX k _
      have bZX : X.heap[w.heap.size]? = some (.cells (bvs zblk).toArray 40) := by rw [← hX]; exact blk_far bZ _ (by simp)
      have hBX : Below w.heap.size w X := by rw [← hX]; exact Below.setCell hB (p := ⟨w.heap.size + 1, k, none⟩) (by simp) _
      clear hX
      go_roundw
      case rel => exact ⟨k + 1, by go_num, by omega, bZX, bXX, hBX⟩
      case measure => simp [intOf]; omega
    · obtain rfl : k = 128 := by omega
      rw [filled_all] at bX
      have hxl := fillB_len x
      generalize fillB x = M at *
      have hz := zblk_cells
      generalize zblk = Z at *
      go_wp2_with (first
        | (refine wpList_load_row rfl 40 (.tmp 3) rfl _ rfl _ (bvs M).toArray (0, 0) _ bX Try.underlying40 rfl (bk_info hxl) ?_)
        | (refine wpList_store_row rfl 40 (.tmp 2) (.tmp 12) rfl _ (bvs M).toArray rfl rfl _ (bvs Z).toArray bZ (bk_info hxl) (by rw [hz, List.size_toArray, bvs_len, hxl]) (all_oneCell_toArray (oneCell_bvs _)) ?_))
      generalize hX : World.setRow _ _ _ = X
      have bZX : X.heap[w.heap.size]? = some (.cells (bvs M).toArray 40) := by rw [← hX]; exact setRow_heap _ _ _ _ _ _ bZ
      have hBX : Below w.heap.size w X := by rw [← hX]; exact bSetRow hB (by omega) _
      clear hX
      have hld := run_loadVar_row (P := Try.prog) X _ _ 40 _ _ _ bZX Try.underlying40 rfl (bk_info hxl)
      refine bodyPost_ret (by simp [results, Try.results51, Act.put, asAddr, Result.andThen, hld]; try rfl) rfl ?_
      exact Ret.mk rfl hBX
end Go.Proofs.Ytnkdbkgihemjnaa
