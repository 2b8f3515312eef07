/- The walk over the reference's Run. -/
import Derived.Test.YthbaogjamenndaaBmpRWith
namespace Go.Proofs.Ythbaogjamenndaa
set_option linter.unusedSimpArgs false
set_option linter.unusedVariables false
open Go.RowKit

theorem runR_arg {m : List UInt8} {k n : Int} (h : n < 1 ∨ k < 1 ∨ 128 < k) : runR m k n = (0, 1) := if_pos h
theorem runR_some {m : List UInt8} {k n a : Nat} (h1 : 1 ≤ n) (h2 : 1 ≤ k) (h3 : k ≤ 128) (h : leastRun m k n = some a) : runR m k n = ((a : Int), 0) := by
  unfold runR
  rw [if_neg (by omega)]
  simp [h]
theorem runR_none {m : List UInt8} {k n : Nat} (h1 : 1 ≤ n) (h2 : 1 ≤ k) (h3 : k ≤ 128) (h : leastRun m k n = none) : runR m k n = (0, 14) := by
  unfold runR
  rw [if_neg (by omega)]
  simp [h]

set_option maxHeartbeats 4000000 in
set_option maxRecDepth 100000 in
theorem rrun_any {m : List UInt8} (hm : m.length = 16) (k n : Int) (hn : n ≤ 9223372036854775807) (w : World) :
    Calls Try.prog 17 #[bmv m, .int .i64 k, .int .i64 n] w (Ret w (.tuple #[.int .i64 (runR m k n).1, .int .i64 (runR m k n).2])) := by
  by_cases harg : n < 1 ∨ k < 1 ∨ 128 < k
  · have HV := Lib.hid (runR_arg (m := m) harg)
    unfold bmv
    have key : (n < 1) ∨ (¬ n < 1 ∧ k < 1) ∨ (¬ n < 1 ∧ ¬ k < 1 ∧ 128 < k) := by omega
    clear harg
    rcases key with k1 | ⟨k1, k2⟩ | ⟨k1, k2, k3⟩
    · go_enter Try.func17, Try.ntmps17
      go_wp2
      go_returns
      exact Ret.mk (by rw [HV.out]; rfl) (by repeat (first | (with_reducible exact Below.refl _ _) | (with_reducible refine bDrewN ?_ _) | (with_reducible refine Below.drew ?_) | (with_reducible refine Below.alloc ?_ ?_ _) | (with_reducible refine Below.setCell ?_ ?_ _) | (with_reducible assumption) | go_size))
    · go_enter Try.func17, Try.ntmps17
      go_wp2
      go_returns
      exact Ret.mk (by rw [HV.out]; rfl) (by repeat (first | (with_reducible exact Below.refl _ _) | (with_reducible refine bDrewN ?_ _) | (with_reducible refine Below.drew ?_) | (with_reducible refine Below.alloc ?_ ?_ _) | (with_reducible refine Below.setCell ?_ ?_ _) | (with_reducible assumption) | go_size))
    · go_enter Try.func17, Try.ntmps17
      go_wp2
      go_returns
      exact Ret.mk (by rw [HV.out]; rfl) (by repeat (first | (with_reducible exact Below.refl _ _) | (with_reducible refine bDrewN ?_ _) | (with_reducible refine Below.drew ?_) | (with_reducible refine Below.alloc ?_ ?_ _) | (with_reducible refine Below.setCell ?_ ?_ _) | (with_reducible assumption) | go_size))
  · obtain ⟨k, rfl⟩ : ∃ a : Nat, k = (a : Int) := ⟨k.toNat, by omega⟩
    obtain ⟨n, rfl⟩ : ∃ b : Nat, n = (b : Int) := ⟨n.toNat, by omega⟩
    have k1 : ¬ (n : Int) < 1 := by omega
    have k2 : ¬ (k : Int) < 1 := by omega
    have k3 : ¬ (128 : Int) < k := by omega
    clear harg
    unfold bmv
    go_enter Try.func17, Try.ntmps17
    go_wp2
    generalize hW : World.alloc w _ = W
    have bM : W.heap[w.heap.size]? = some (.cells (bvs m).toArray 23) := by rw [← hW]; exact heap_alloc_new _ _
    have hB : Below w.heap.size w W := by rw [← hW]; exact (Below.refl _ _).alloc (Nat.le_refl _) _
    clear hW
    go_loopw [8] (fun i wr => ∃ a : Nat, i = .int .i64 a ∧ a ≤ k ∧ (∀ b, b < a → rl m k b < n) ∧ wr.heap[w.heap.size]? = some (.cells (bvs m).toArray 23) ∧ Below w.heap.size w wr) (fun i _ => k - (intOf i).toNat)
    case atStart => exact ⟨0, rfl, by omega, fun b hb => absurd hb (by omega), bM, hB⟩
    case round =>
      clear bM hB
      obtain ⟨a, rfl, ha, hno, bM, hB⟩ := hrel
      have HNO := Lib.hid hno
      clear hno
      have hzr := hB.size
      have hz1 : w.heap.size < wr.heap.size := (Array.getElem?_eq_some_iff.1 bM).1
      by_cases hend : a + n ≤ k
      · have g1 : (n : Int) ≤ k := by omega
        have g2 : (a : Int) + n ≤ k := by omega
        have hw := fun W => rwith_any hm a n W
        have hlen := withR_len hm (a : Int) (n : Int)
        have hcode : (withR m a n).2 = 0 ∧ leastRun m k n = some a ∨ (withR m a n).2 = 11 ∧ rl m k a < n := by
          by_cases hf : freeN m a n
          · left
            rw [withR_free (by omega) (by omega) hf]
            exact ⟨rfl, leastRun_is (by omega) ((free_rl n a hend).1 hf) HNO.out⟩
          · right
            refine ⟨?_, (by
              rcases Nat.lt_or_ge (rl m k a) n with h | h
              · exact h
              · exact absurd ((free_rl (m := m) (k := k) n a hend).2 h) hf)⟩
            unfold withR
            rw [if_neg (by omega), if_neg (by simpa using hf)]
        generalize withR m a n = R at *
        obtain ⟨M2, c⟩ := R
        simp only at hlen hcode hw
        have HC := Lib.hid hcode
        clear hcode
        unfold bmv at hw
        go_wp2_with (refine wpList_load_row rfl 23 (.tmp 3) rfl _ rfl _ (bvs m).toArray (0, 0) _ bM Try.underlying23 rfl (bm_info hm) ?_)
        refine (hw _).mono ?_
        rintro e w2 ⟨rfl, hb2⟩
        have bM2 := bBlk hb2 hz1 bM
        have hB2 := hB.trans (hb2.mono hzr)
        have hz2 := hb2.size
        clear hw hb2 bM hB
        rcases HC.out with ⟨rfl, hl⟩ | ⟨rfl, hl⟩
        · have HV := Lib.hid (runR_some (by omega) (by omega) (by omega) hl)
          clear hl
          go_wp2_with (refine wpList_store_row rfl 23 (.tmp 9) (.tmp 38) rfl _ (bvs M2).toArray rfl rfl _ (bvs z16).toArray (heap_alloc_new _ _) (bm_info hlen) (by simp [bvs, hlen, z16]) (all_oneCell_toArray (oneCell_bvs _)) ?_)
          generalize hX : World.setRow _ _ _ = X
          have bMX : X.heap[w.heap.size]? = some (.cells (bvs m).toArray 23) := by rw [← hX]; exact (setRow_other _ _ _ _ (by omega)).trans ((Below.heap_alloc _ _ _ (by omega)).trans bM2)
          have hBX : Below w.heap.size w X := by rw [← hX]; exact bSetRow (hB2.alloc (by omega) _) (by omega) _
          clear hX
          go_returns
          exact Ret.mk (by rw [HV.out]; rfl) hBX
        · have HNX : Hid (∀ b, b < a + 1 → rl m k b < n) := Lib.hid (fun b hb => by
            by_cases e : b = a
            · rw [e]; exact hl
            · exact HNO.out b (by omega))
          go_wp2_with (refine wpList_store_row rfl 23 (.tmp 9) (.tmp 38) rfl _ (bvs M2).toArray rfl rfl _ (bvs z16).toArray (heap_alloc_new _ _) (bm_info hlen) (by simp [bvs, hlen, z16]) (all_oneCell_toArray (oneCell_bvs _)) ?_)
          generalize hX : World.setRow _ _ _ = X
          have bMX : X.heap[w.heap.size]? = some (.cells (bvs m).toArray 23) := by rw [← hX]; exact (setRow_other _ _ _ _ (by omega)).trans ((Below.heap_alloc _ _ _ (by omega)).trans bM2)
          have hBX : Below w.heap.size w X := by rw [← hX]; exact bSetRow (hB2.alloc (by omega) _) (by omega) _
          clear hX
          go_roundw
          case rel => exact ⟨a + 1, by go_num, by omega, HNX.out, bMX, hBX⟩
          case measure => simp [intOf]; omega
      · have HV : Hid (runR m k n = (0, 14)) := Lib.hid (runR_none (by omega) (by omega) (by omega) (leastRun_none (fun b hb => by
          by_cases e : b < a
          · exact HNO.out b e
          · have := rl_le m k b; omega)))
        by_cases g1 : (n : Int) ≤ k
        · have g2 : ¬ (a : Int) + n ≤ k := by omega
          go_wp2
          go_returns
          exact Ret.mk (by rw [HV.out]; rfl) hB
        · go_wp2
          go_returns
          exact Ret.mk (by rw [HV.out]; rfl) hB
end Go.Proofs.Ythbaogjamenndaa
