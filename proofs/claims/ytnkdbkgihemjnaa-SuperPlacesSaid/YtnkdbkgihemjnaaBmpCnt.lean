
/- The walks over Count and its reference. -/
import Derived.Test.YtnkdbkgihemjnaaBmpWalk
namespace Go.Proofs.Ytnkdbkgihemjnaa
set_option linter.unusedSimpArgs false
set_option linter.unusedVariables false
open Go.RowKit

set_option maxHeartbeats 2000000 in
set_option maxRecDepth 100000 in
theorem count_any {m : List UInt8} (hm : m.length = 16) (k : Int) (w : World) : Calls Try.prog 74 #[bmv m, .int .i64 k] w (Ret w (.int .i64 (cntTo m (min k 128).toNat : Nat))) := by
  unfold bmv
  by_cases hk : k ≤ 0
  · rw [show (min k 128).toNat = 0 from by omega]
    have e1 : min k 128 = k := by omega
    go_enter Try.func74, Try.ntmps74
    go_wp2
    go_loopw [5, 9] (fun n i wr => n = .int .i64 0 ∧ i = .int .i64 0 ∧ Below w.heap.size w wr) (fun _ _ _ => 0)
    case atStart => exact ⟨rfl, rfl, (by repeat (first | (with_reducible exact Below.refl _ _) | (with_reducible refine bDrewN ?_ _) | (with_reducible refine Below.drew ?_) | (with_reducible refine Below.alloc ?_ ?_ _) | (with_reducible refine Below.setCell ?_ ?_ _) | (with_reducible assumption) | go_size))⟩
    case round =>
      obtain ⟨rfl, rfl, hB⟩ := hrel
      go_wp2
      go_ret
      exact Ret.mk rfl hB
  obtain ⟨K, hK, hKe, hk1⟩ : ∃ K : Nat, (min k 128).toNat = K ∧ K ≤ 128 ∧ min k 128 = (K : Int) := ⟨(min k 128).toNat, rfl, by omega, by omega⟩
  rw [hK]
  clear hK
  go_enter Try.func74, Try.ntmps74
  go_wp2
  generalize hW : World.alloc w _ = W
  have bM : W.heap[w.heap.size]? = some (.cells (bvs m).toArray 36) := by rw [← hW]; exact heap_alloc_new _ _
  have hB : Below w.heap.size w W := by rw [← hW]; exact (Below.refl _ _).alloc (Nat.le_refl _) _
  clear hW
  have HKK := Lib.hid hk1
  go_loopw [5, 9] (fun n i wr => ∃ j : Nat, i = .int .i64 j ∧ n = .int .i64 (cntTo m j : Nat) ∧ j ≤ K ∧ wr.heap[w.heap.size]? = some (.cells (bvs m).toArray 36) ∧ Below w.heap.size w wr) (fun _ i _ => K - (intOf i).toNat)
  case atStart => exact ⟨0, rfl, rfl, by omega, bM, hB⟩
  case round =>
    clear bM hB
    obtain ⟨j, rfl, rfl, hj, bM, hB⟩ := hrel
    have hzr := hB.size
    have hz1 : w.heap.size < wr.heap.size := (Array.getElem?_eq_some_iff.1 bM).1
    have hcl := cntTo_le m j
    by_cases hlt : j < K
    · have hh := fun W => has_any hm j W
      rw [hasB_nat (show j < 128 by omega)] at hh
      unfold bmv at hh
      have HS := Lib.hid (cntTo_succ m j)
      have g1 : (j : Int) < K := by omega
      obtain ⟨t, ht⟩ : ∃ t, bit m j = t := ⟨_, rfl⟩
      rw [ht] at hh HS
      clear ht
      go_wp2_with (refine wpList_load_row rfl 36 (.tmp 2) rfl _ rfl _ (bvs m).toArray (0, 0) _ bM Try.underlying36 rfl (bm_info hm) ?_)
      refine (hh _).mono ?_
      rintro e w2 ⟨rfl, hb2⟩
      have bM2 := bBlk hb2 hz1 bM
      have hB2 := hB.trans (hb2.mono hzr)
      clear hh hb2 bM
      cases t
      · go_wp2
        go_roundw
        case rel => exact ⟨j + 1, by go_num, by rw [HS.out]; rfl, by omega, bM2, hB2⟩
        case measure => simp [intOf]; omega
      · go_wp2
        go_roundw
        case rel => exact ⟨j + 1, by go_num, by rw [HS.out]; simp, by omega, bM2, hB2⟩
        case measure => simp [intOf]; omega
    · obtain rfl : j = K := by omega
      go_wp2
      go_ret
      exact Ret.mk rfl hB

set_option maxHeartbeats 2000000 in
set_option maxRecDepth 100000 in
theorem rcount_any {m : List UInt8} (hm : m.length = 16) (k : Int) (w : World) : Calls Try.prog 76 #[bmv m, .int .i64 k] w (Ret w (.int .i64 (cntTo m (min k 128).toNat : Nat))) := by
  unfold bmv
  by_cases hk : k ≤ 0
  · rw [show (min k 128).toNat = 0 from by omega]
    have e1 : min k 128 = k := by omega
    go_enter Try.func76, Try.ntmps76
    go_wp2
    go_loopw [5, 6] (fun n i wr => n = .int .i64 0 ∧ i = .int .i64 0 ∧ Below w.heap.size w wr) (fun _ _ _ => 0)
    case atStart => exact ⟨rfl, rfl, (by repeat (first | (with_reducible exact Below.refl _ _) | (with_reducible refine bDrewN ?_ _) | (with_reducible refine Below.drew ?_) | (with_reducible refine Below.alloc ?_ ?_ _) | (with_reducible refine Below.setCell ?_ ?_ _) | (with_reducible assumption) | go_size))⟩
    case round =>
      obtain ⟨rfl, rfl, hB⟩ := hrel
      go_wp2
      go_ret
      exact Ret.mk rfl hB
  obtain ⟨K, hK, hKe, hk1⟩ : ∃ K : Nat, (min k 128).toNat = K ∧ K ≤ 128 ∧ min k 128 = (K : Int) := ⟨(min k 128).toNat, rfl, by omega, by omega⟩
  rw [hK]
  clear hK
  go_enter Try.func76, Try.ntmps76
  go_wp2
  generalize hW : World.alloc w _ = W
  have bM : W.heap[w.heap.size]? = some (.cells (bvs m).toArray 36) := by rw [← hW]; exact heap_alloc_new _ _
  have hB : Below w.heap.size w W := by rw [← hW]; exact (Below.refl _ _).alloc (Nat.le_refl _) _
  clear hW
  have HKK := Lib.hid hk1
  clear hk1
  go_loopw [5, 6] (fun n i wr => ∃ j : Nat, i = .int .i64 j ∧ n = .int .i64 (cntTo m j : Nat) ∧ j ≤ K ∧ wr.heap[w.heap.size]? = some (.cells (bvs m).toArray 36) ∧ Below w.heap.size w wr) (fun _ i _ => K - (intOf i).toNat)
  case atStart => exact ⟨0, rfl, rfl, by omega, bM, hB⟩
  case round =>
    clear bM hB
    obtain ⟨j, rfl, rfl, hj, bM, hB⟩ := hrel
    have hzr := hB.size
    have hz1 : w.heap.size < wr.heap.size := (Array.getElem?_eq_some_iff.1 bM).1
    have hcl := cntTo_le m j
    by_cases hlt : j < K
    · have hh := fun W => rhasb_any hm j W
      rw [hasB_nat (show j < 128 by omega)] at hh
      unfold bmv at hh
      have HS := Lib.hid (cntTo_succ m j)
      have g1 : (j : Int) < K := by omega
      have g2 : (j : Int) < k := by have := HKK.out; omega
      have g3 : (j : Int) < 128 := by omega
      obtain ⟨t, ht⟩ : ∃ t, bit m j = t := ⟨_, rfl⟩
      rw [ht] at hh HS
      clear ht
      go_wp2_with (refine wpList_load_row rfl 36 (.tmp 2) rfl _ rfl _ (bvs m).toArray (0, 0) _ bM Try.underlying36 rfl (bm_info hm) ?_)
      refine (hh _).mono ?_
      rintro e w2 ⟨rfl, hb2⟩
      have bM2 := bBlk hb2 hz1 bM
      have hB2 := hB.trans (hb2.mono hzr)
      clear hh hb2 bM
      cases t
      · go_wp2
        go_roundw
        case rel => exact ⟨j + 1, by go_num, by rw [HS.out]; rfl, by omega, bM2, hB2⟩
        case measure => simp [intOf]; omega
      · go_wp2
        go_roundw
        case rel => exact ⟨j + 1, by go_num, by rw [HS.out]; simp, by omega, bM2, hB2⟩
        case measure => simp [intOf]; omega
    · obtain rfl : j = K := by omega
      have g2 : ¬ ((j : Int) < k ∧ (j : Int) < 128) := by have := HKK.out; omega
      have g3 : k ≤ j ∨ (128 : Int) ≤ j := by have := HKK.out; omega
      clear g2
      rcases g3 with g3 | g3
      · go_wp2
        go_ret
        exact Ret.mk rfl hB
      · by_cases g4 : (j : Int) < k
        · go_wp2
          go_ret
          exact Ret.mk rfl hB
        · go_wp2
          go_ret
          exact Ret.mk rfl hB
end Go.Proofs.Ytnkdbkgihemjnaa
