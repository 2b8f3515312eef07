/- The walks over Or and Count, and their reference. -/
import Derived.Test.YthbaogjamenndaaBmpWith
namespace Go.Proofs.Ythbaogjamenndaa
set_option linter.unusedSimpArgs false
set_option linter.unusedVariables false
open Go.RowKit

def orTo (a b : List UInt8) : Nat → List UInt8
  | 0 => a
  | i + 1 => (orTo a b i).set i (byteAt a i ||| byteAt b i)
theorem orTo_len (a b : List UInt8) (i : Nat) : (orTo a b i).length = a.length := by
  induction i with
  | zero => rfl
  | succ i ih => rw [orTo, List.length_set, ih]
theorem orTo_at {a b : List UInt8} (ha : a.length = 16) (j : Nat) : ∀ i, i ≤ 16 → byteAt (orTo a b i) j = if j < i then byteAt a j ||| byteAt b j else byteAt a j
  | 0, _ => by simp [orTo]
  | i + 1, h => by
    rw [orTo, byteAt_set (by rw [orTo_len]; omega), orTo_at ha j i (by omega)]
    by_cases e : i = j
    · subst e; simp
    · by_cases e2 : j < i
      · rw [if_neg e, if_pos e2, if_pos (by omega)]
      · rw [if_neg e, if_neg e2, if_neg (by omega)]
theorem bytes_ext {a b : List UInt8} (ha : a.length = 16) (hb : b.length = 16) (h : ∀ i, i < 16 → byteAt a i = byteAt b i) : a = b := by
  apply List.ext_getElem (by omega)
  intro i h1 h2
  have := h i (by omega)
  unfold byteAt at this
  rw [List.getElem?_eq_getElem h1, List.getElem?_eq_getElem h2] at this
  exact this
theorem orTo_all {a b : List UInt8} (ha : a.length = 16) (hb : b.length = 16) : orTo a b 16 = orM a b :=
  bytes_ext (by rw [orTo_len]; exact ha) (orM_len ha hb) (fun i hi => by rw [orTo_at ha i 16 (by omega), if_pos hi, byteAt_orM ha hb])
theorem set_cells {M : List UInt8} (i : Nat) (v : UInt8) : (bvs M).toArray.setIfInBounds i (.int .u8 ((v.toNat : Nat) : Int)) = (bvs (M.set i v)).toArray := by
  simp [bvs, bv, List.map_set]
theorem or_u8 (x y : UInt8) : bits .or .u8 (x.toNat : Int) (y.toNat : Int) = (((x ||| y).toNat : Nat) : Int) := by
  rw [u8_or _ _ x.toNat_lt y.toNat_lt, UInt8.toNat_or]

set_option maxHeartbeats 2000000 in
set_option maxRecDepth 100000 in
theorem or_any {a b : List UInt8} (ha : a.length = 16) (hb : b.length = 16) (w : World) : Calls Try.prog 20 #[bmv a, bmv b] w (Ret w (bmv (orM a b))) := by
  unfold bmv
  go_enter Try.func20, Try.ntmps20
  go_wp2
  generalize hW : World.alloc (World.alloc (World.alloc w _) _) _ = W
  have bA : W.heap[w.heap.size]? = some (.cells (bvs a).toArray 23) := by rw [← hW]; exact (Below.heap_alloc _ _ _ (by simp <;> omega)).trans ((Below.heap_alloc _ _ _ (by simp)).trans (heap_alloc_new _ _))
  have bB : W.heap[w.heap.size + 1]? = some (.cells (bvs b).toArray 23) := by rw [← hW]; exact (Below.heap_alloc _ _ _ (by simp)).trans (heap_alloc_new2 _ _ _)
  have bZ : W.heap[w.heap.size + 1 + 1]? = some (.cells (bvs z16).toArray 23) := by
    have e := heap_alloc_new2 (w.alloc (.cells (bvs a).toArray 23)) (.cells (bvs b).toArray 23) (.cells (bvs z16).toArray 23)
    rw [World.size_alloc] at e
    rw [← hW]; exact e
  have hB : Below w.heap.size w W := by rw [← hW]; exact (((Below.refl _ _).alloc (Nat.le_refl _) _).alloc (by simp) _).alloc (by simp <;> omega) _
  clear hW
  go_loopw [6] (fun i wr => ∃ k : Nat, i = .int .i64 k ∧ k ≤ 16 ∧ wr.heap[w.heap.size]? = some (.cells (bvs (orTo a b k)).toArray 23) ∧ wr.heap[w.heap.size + 1]? = some (.cells (bvs b).toArray 23) ∧ wr.heap[w.heap.size + 1 + 1]? = some (.cells (bvs z16).toArray 23) ∧ Below w.heap.size w wr) (fun i _ => 16 - (intOf i).toNat)
  case atStart => exact ⟨0, rfl, by omega, bA, bB, bZ, hB⟩
  case round =>
    clear bA bB bZ hB
    obtain ⟨k, rfl, hk, bA, bB, bZ, hB⟩ := hrel
    have hML : (orTo a b k).length = 16 := by rw [orTo_len]; exact ha
    by_cases hlt : k < 16
    · have hx := byte_cell hML hlt
      rw [orTo_at ha k k (by omega), if_neg (by omega)] at hx
      have c1 := blk_cell bA hx
      have c2 := blk_cell bB (byte_cell hb hlt)
      have f1 := blk_frozen bA k
      have hor := or_u8 (byteAt a k) (byteAt b k)
      have hput := set_cells (M := orTo a b k) k (byteAt a k ||| byteAt b k)
      generalize (((byteAt a k ||| byteAt b k).toNat : Nat) : Int) = V at *
      have HPUT := Lib.hid (show (bvs (orTo a b (k + 1))).toArray = (bvs (orTo a b k)).toArray.setIfInBounds k (.int .u8 V) by rw [hput]; rfl)
      have hk16 : (k : Int) < 16 := by omega
      clear hput hx
      go_wp2_with fail
      go_still_tail 8, (by kernel_rfl)
      change wpList _ _ _ _ _ (World.drew _)
      go_wp2
      generalize hX : World.drew (World.setCell _ _ _) = X
      have bAX : X.heap[w.heap.size]? = some (.cells (bvs (orTo a b (k + 1))).toArray 23) := by rw [← hX, HPUT.out]; exact blk_set bA k _
      have bBX : X.heap[w.heap.size + 1]? = some (.cells (bvs b).toArray 23) := by rw [← hX]; exact blk_far (W := wr) bB _ (by simp)
      have bZX : X.heap[w.heap.size + 1 + 1]? = some (.cells (bvs z16).toArray 23) := by rw [← hX]; exact blk_far (W := wr) bZ _ (by simp <;> omega)
      have hBX : Below w.heap.size w X := by rw [← hX]; exact Below.drew (Below.setCell hB (p := ⟨w.heap.size, k, none⟩) (Nat.le_refl _) _)
      clear hX
      go_roundw
      case rel => exact ⟨k + 1, by go_num, by omega, bAX, bBX, bZX, hBX⟩
      case measure => simp [intOf]; omega
    · obtain rfl : k = 16 := by omega
      have HV := Lib.hid (orTo_all (b := b) ha hb)
      generalize orTo a b 16 = M at *
      go_wp2_with (first
        | (refine wpList_load_row rfl 23 (.tmp 2) rfl _ rfl _ (bvs M).toArray (0, 0) _ bA Try.underlying23 rfl (bm_info hML) ?_)
        | (refine wpList_store_row rfl 23 (.tmp 4) (.tmp 18) rfl _ (bvs M).toArray rfl rfl _ (bvs z16).toArray bZ (bm_info hML) (by simp [bvs, hML, z16]) (all_oneCell_toArray (oneCell_bvs _)) ?_))
      generalize hX : World.setRow _ _ _ = X
      have bZX : X.heap[w.heap.size + 1 + 1]? = some (.cells (bvs M).toArray 23) := by rw [← hX]; exact setRow_heap _ _ _ _ _ _ bZ
      have hBX : Below w.heap.size w X := by rw [← hX]; exact bSetRow hB (by omega) _
      clear hX
      have hld := run_loadVar_row (P := Try.prog) X _ _ 23 _ _ _ bZX Try.underlying23 rfl (bm_info hML)
      refine bodyPost_ret (by simp [results, Try.results20, Act.put, asAddr, Result.andThen, hld]; try rfl) rfl ?_
      exact Ret.mk (by rw [HV.out]) hBX

set_option maxHeartbeats 2000000 in
set_option maxRecDepth 100000 in
theorem ror_any {a b : List UInt8} (ha : a.length = 16) (hb : b.length = 16) (w : World) : Calls Try.prog 21 #[bmv a, bmv b] w (Ret w (bmv (orM a b))) := by
  unfold bmv
  go_enter Try.func21, Try.ntmps21
  go_wp2
  generalize hW : World.alloc (World.alloc (World.alloc w _) _) _ = W
  have bA : W.heap[w.heap.size]? = some (.cells (bvs a).toArray 23) := by rw [← hW]; exact (Below.heap_alloc _ _ _ (by simp <;> omega)).trans ((Below.heap_alloc _ _ _ (by simp)).trans (heap_alloc_new _ _))
  have bB : W.heap[w.heap.size + 1]? = some (.cells (bvs b).toArray 23) := by rw [← hW]; exact (Below.heap_alloc _ _ _ (by simp)).trans (heap_alloc_new2 _ _ _)
  have bZ : W.heap[w.heap.size + 1 + 1]? = some (.cells (bvs z16).toArray 23) := by
    have e := heap_alloc_new2 (w.alloc (.cells (bvs a).toArray 23)) (.cells (bvs b).toArray 23) (.cells (bvs z16).toArray 23)
    rw [World.size_alloc] at e
    rw [← hW]; exact e
  have hB : Below w.heap.size w W := by rw [← hW]; exact (((Below.refl _ _).alloc (Nat.le_refl _) _).alloc (by simp) _).alloc (by simp <;> omega) _
  clear hW
  go_loopw [5] (fun i wr => ∃ k : Nat, i = .int .i64 k ∧ k ≤ 16 ∧ wr.heap[w.heap.size]? = some (.cells (bvs (orTo a b k)).toArray 23) ∧ wr.heap[w.heap.size + 1]? = some (.cells (bvs b).toArray 23) ∧ wr.heap[w.heap.size + 1 + 1]? = some (.cells (bvs z16).toArray 23) ∧ Below w.heap.size w wr) (fun i _ => 16 - (intOf i).toNat)
  case atStart => exact ⟨0, rfl, by omega, bA, bB, bZ, hB⟩
  case round =>
    clear bA bB bZ hB
    obtain ⟨k, rfl, hk, bA, bB, bZ, hB⟩ := hrel
    have hML : (orTo a b k).length = 16 := by rw [orTo_len]; exact ha
    by_cases hlt : k < 16
    · have hx := byte_cell hML hlt
      rw [orTo_at ha k k (by omega), if_neg (by omega)] at hx
      have c1 := blk_cell bA hx
      have c2 := blk_cell bB (byte_cell hb hlt)
      have f1 := blk_frozen bA k
      have hor := or_u8 (byteAt a k) (byteAt b k)
      have hput := set_cells (M := orTo a b k) k (byteAt a k ||| byteAt b k)
      generalize (((byteAt a k ||| byteAt b k).toNat : Nat) : Int) = V at *
      have HPUT := Lib.hid (show (bvs (orTo a b (k + 1))).toArray = (bvs (orTo a b k)).toArray.setIfInBounds k (.int .u8 V) by rw [hput]; rfl)
      have hk16 : (k : Int) < 16 := by omega
      clear hput hx
      go_wp2_with fail
      go_still_tail 8, (by kernel_rfl)
      change wpList _ _ _ _ _ (World.drew _)
      go_wp2
      generalize hX : World.drew (World.setCell _ _ _) = X
      have bAX : X.heap[w.heap.size]? = some (.cells (bvs (orTo a b (k + 1))).toArray 23) := by rw [← hX, HPUT.out]; exact blk_set bA k _
      have bBX : X.heap[w.heap.size + 1]? = some (.cells (bvs b).toArray 23) := by rw [← hX]; exact blk_far (W := wr) bB _ (by simp)
      have bZX : X.heap[w.heap.size + 1 + 1]? = some (.cells (bvs z16).toArray 23) := by rw [← hX]; exact blk_far (W := wr) bZ _ (by simp <;> omega)
      have hBX : Below w.heap.size w X := by rw [← hX]; exact Below.drew (Below.setCell hB (p := ⟨w.heap.size, k, none⟩) (Nat.le_refl _) _)
      clear hX
      go_roundw
      case rel => exact ⟨k + 1, by go_num, by omega, bAX, bBX, bZX, hBX⟩
      case measure => simp [intOf]; omega
    · obtain rfl : k = 16 := by omega
      have HV := Lib.hid (orTo_all (b := b) ha hb)
      generalize orTo a b 16 = M at *
      go_wp2_with (first
        | (refine wpList_load_row rfl 23 (.tmp 2) rfl _ rfl _ (bvs M).toArray (0, 0) _ bA Try.underlying23 rfl (bm_info hML) ?_)
        | (refine wpList_store_row rfl 23 (.tmp 4) (.tmp 18) rfl _ (bvs M).toArray rfl rfl _ (bvs z16).toArray bZ (bm_info hML) (by simp [bvs, hML, z16]) (all_oneCell_toArray (oneCell_bvs _)) ?_))
      generalize hX : World.setRow _ _ _ = X
      have bZX : X.heap[w.heap.size + 1 + 1]? = some (.cells (bvs M).toArray 23) := by rw [← hX]; exact setRow_heap _ _ _ _ _ _ bZ
      have hBX : Below w.heap.size w X := by rw [← hX]; exact bSetRow hB (by omega) _
      clear hX
      have hld := run_loadVar_row (P := Try.prog) X _ _ 23 _ _ _ bZX Try.underlying23 rfl (bm_info hML)
      refine bodyPost_ret (by simp [results, Try.results21, Act.put, asAddr, Result.andThen, hld]; try rfl) rfl ?_
      exact Ret.mk (by rw [HV.out]) hBX
end Go.Proofs.Ythbaogjamenndaa
