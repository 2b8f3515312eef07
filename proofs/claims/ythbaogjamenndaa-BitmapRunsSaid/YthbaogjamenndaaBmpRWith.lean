/- The walks over the reference's With. -/
import Derived.Test.YthbaogjamenndaaBmpWith
namespace Go.Proofs.Ythbaogjamenndaa
set_option linter.unusedSimpArgs false
set_option linter.unusedVariables false
open Go.RowKit

set_option maxHeartbeats 2000000 in
set_option maxRecDepth 100000 in
theorem rwith_arg {m : List UInt8} (hm : m.length = 16) (f n : Int) (h : n < 1 ∨ f < 0 ∨ 128 ≤ f ∨ 128 - f < n) (w : World) :
    Calls Try.prog 15 #[bmv m, .int .i64 f, .int .i64 n] w (Ret w (.tuple #[bmv (withR m f n).1, .int .i64 (withR m f n).2])) := by
  have HV := Lib.hid (withR_arg (m := m) h)
  unfold bmv
  have key : (n < 1) ∨ (¬ n < 1 ∧ 128 < n) ∨ (¬ n < 1 ∧ ¬ 128 < n ∧ f < 0) ∨ (¬ n < 1 ∧ ¬ 128 < n ∧ ¬ f < 0 ∧ 128 - n < f) := by omega
  clear h
  rcases key with k1 | ⟨k1, k2⟩ | ⟨k1, k2, k3⟩ | ⟨k1, k2, k3, k4⟩
  · go_enter Try.func15, Try.ntmps15
    go_wp2
    go_returns
    exact Ret.mk (by rw [HV.out]; rfl) (by repeat (first | (with_reducible exact Below.refl _ _) | (with_reducible refine bDrewN ?_ _) | (with_reducible refine Below.drew ?_) | (with_reducible refine Below.alloc ?_ ?_ _) | (with_reducible refine Below.setCell ?_ ?_ _) | (with_reducible assumption) | go_size))
  · go_enter Try.func15, Try.ntmps15
    go_wp2
    go_returns
    exact Ret.mk (by rw [HV.out]; rfl) (by repeat (first | (with_reducible exact Below.refl _ _) | (with_reducible refine bDrewN ?_ _) | (with_reducible refine Below.drew ?_) | (with_reducible refine Below.alloc ?_ ?_ _) | (with_reducible refine Below.setCell ?_ ?_ _) | (with_reducible assumption) | go_size))
  · go_enter Try.func15, Try.ntmps15
    go_wp2
    go_returns
    exact Ret.mk (by rw [HV.out]; rfl) (by repeat (first | (with_reducible exact Below.refl _ _) | (with_reducible refine bDrewN ?_ _) | (with_reducible refine Below.drew ?_) | (with_reducible refine Below.alloc ?_ ?_ _) | (with_reducible refine Below.setCell ?_ ?_ _) | (with_reducible assumption) | go_size))
  · go_enter Try.func15, Try.ntmps15
    go_wp2
    go_returns
    exact Ret.mk (by rw [HV.out]; rfl) (by repeat (first | (with_reducible exact Below.refl _ _) | (with_reducible refine bDrewN ?_ _) | (with_reducible refine Below.drew ?_) | (with_reducible refine Below.alloc ?_ ?_ _) | (with_reducible refine Below.setCell ?_ ?_ _) | (with_reducible assumption) | go_size))

set_option maxHeartbeats 4000000 in
set_option maxRecDepth 100000 in
theorem rwith_ok {m : List UInt8} (hm : m.length = 16) (f n : Nat) (h1 : 1 ≤ n) (h2 : f + n ≤ 128) (w : World) :
    Calls Try.prog 15 #[bmv m, .int .i64 f, .int .i64 n] w (Ret w (.tuple #[bmv (withR m f n).1, .int .i64 (withR m f n).2])) := by
  unfold bmv
  have k1 : ¬ (n : Int) < 1 := by omega
  have k2 : ¬ (f : Int) < 0 := by omega
  have k3 : ¬ (128 : Int) < n := by omega
  have k4 : ¬ (128 : Int) - n < f := by omega
  have kf : (f : Int) ≤ 128 := by omega
  have kn : (n : Int) ≤ 128 := by omega
  go_enter Try.func15, Try.ntmps15
  go_wp2
  generalize hW : World.alloc (World.alloc w _) _ = W
  have bM : W.heap[w.heap.size]? = some (.cells (bvs m).toArray 23) := by rw [← hW]; exact (Below.heap_alloc _ _ _ (by simp)).trans (heap_alloc_new _ _)
  have bZ : W.heap[w.heap.size + 1]? = some (.cells (bvs z16).toArray 23) := by rw [← hW]; exact heap_alloc_new2 _ _ _
  have hB : Below w.heap.size w W := by rw [← hW]; exact ((Below.refl _ _).alloc (Nat.le_refl _) _).alloc (by simp) _
  clear hW
  go_loopw [8] (fun b wr => ∃ k : Nat, b = .int .i64 (f + k : Nat) ∧ k ≤ n ∧ freeN m f k ∧ wr.heap[w.heap.size]? = some (.cells (bvs (putN m f k)).toArray 23) ∧ wr.heap[w.heap.size + 1]? = some (.cells (bvs z16).toArray 23) ∧ Below w.heap.size w wr) (fun b _ => f + n - (intOf b).toNat)
  case atStart => exact ⟨0, by simp, by omega, fun b h1 h2 => absurd h2 (by omega), bM, bZ, hB⟩
  case round =>
    clear bM bZ hB
    obtain ⟨k, hb, hk, hfr, bM, bZ, hB⟩ := hrel
    obtain ⟨p, hp⟩ : ∃ p, f + k = p := ⟨_, rfl⟩
    rw [hp] at hb
    subst hb
    have hML : (putN m f k).length = 16 := by rw [putN_len]; exact hm
    have hzr := hB.size
    have hz2 : w.heap.size + 1 < wr.heap.size := (Array.getElem?_eq_some_iff.1 bZ).1
    by_cases hlt : k < n
    · have g1 : (p : Int) < (f : Int) + n := by omega
      have hp128 : p < 128 := by omega
      obtain ⟨t, ht⟩ : ∃ t, bit m p = t := ⟨_, rfl⟩
      have hbt : hasB (putN m f k) p = t := by
        rw [hasB_nat hp128, bit_putN hm (by omega), ht]
        have : ¬ (f ≤ p ∧ p < f + k) := by omega
        simp [this]
      have HM1 := Lib.hid (show putN m f (k + 1) = putB (putN m f k) p by rw [putN, hp])
      have HP := Lib.hid hp
      have HT := Lib.hid ht
      have hh := fun W => rhas_any hML p W
      rw [hbt] at hh
      clear hp ht hbt
      generalize putN m f k = M at *
      unfold bmv at hh
      go_wp2_with (refine wpList_load_row rfl 23 (.tmp 3) rfl _ rfl _ (bvs M).toArray (0, 0) _ bM Try.underlying23 rfl (bm_info hML) ?_)
      refine (hh _).mono ?_
      rintro e w2 ⟨rfl, hb2⟩
      have bM2 := bBlk hb2 (by omega) bM
      have bZ2 := bBlk hb2 (by omega) bZ
      have hB2 := hB.trans (hb2.mono hzr)
      have hz22 := hb2.size
      clear hb2 hh bM bZ
      cases t
      · obtain ⟨q, hq⟩ : ∃ q, p / 8 = q := ⟨_, rfl⟩
        obtain ⟨c, hc⟩ : ∃ c, p % 8 = c := ⟨_, rfl⟩
        have hq16 : q < 16 := by omega
        have hq16' : (q : Int) < 16 := by omega
        have hc8 : c < 8 := by omega
        have e1 : Int.tdiv (p : Int) 8 = (q : Int) := by rw [Int.tdiv_eq_ediv_of_nonneg (by omega)]; omega
        have e2 : Int.tmod (p : Int) 8 = (c : Int) := by rw [Int.tmod_eq_emod_of_nonneg (by omega)]; omega
        have e3 : (p : Int) / 8 = (q : Int) := by omega
        have e4 : (p : Int) % 8 = (c : Int) := by omega
        have w1 : IntKind.i64.wrap (q : Int) = q := wrap_small _ (by omega) (by omega)
        have w2' : IntKind.i64.wrap (c : Int) = c := wrap_small _ (by omega) (by omega)
        have hcell := blk_cell bM2 (byte_cell hML hq16)
        have hfz := blk_frozen bM2 q
        have hor := or_pow (x := byteAt M q) hc8
        have hput := put_cells hML hp128
        rw [hq, hc] at hput
        generalize (((byteAt M q ||| UInt8.ofNat (2 ^ c)).toNat : Nat) : Int) = V at *
        have HPUT := Lib.hid hput
        have sh : IntKind.u8.wrap ((2 : Int) ^ c) = 2 ^ c := by
          match c, hc8 with
          | 0, _ | 1, _ | 2, _ | 3, _ | 4, _ | 5, _ | 6, _ | 7, _ => rfl
        clear hput hq hc
        have cw : IntKind.u64.wrap (c : Int) = c := by show (c : Int) % 18446744073709551616 = c; omega
        go_wp2
        generalize hX : World.setCell _ _ _ = X
        have bMX : X.heap[w.heap.size]? = some (.cells (bvs (putB M p)).toArray 23) := by rw [← hX, ← HPUT.out]; exact blk_set bM2 q _
        have bZX : X.heap[w.heap.size + 1]? = some (.cells (bvs z16).toArray 23) := by rw [← hX]; exact blk_far (W := w2) bZ2 _ (by simp)
        have hBX : Below w.heap.size w X := by rw [← hX]; exact Below.setCell hB2 (p := ⟨w.heap.size, q, none⟩) (Nat.le_refl _) _
        clear hX
        go_roundw
        case rel =>
          refine ⟨k + 1, by have := HP.out; go_num, by omega, ?_, by rw [HM1.out]; exact bMX, bZX, hBX⟩
          have := HT.out
          rw [← HP.out] at this
          exact freeN_more hfr this
        case measure => simp [intOf]; omega
      · have HV : Hid (withR m f n = (z16, 11)) := Lib.hid (by
          have := HP.out
          exact withR_used h1 h2 (show f ≤ p by omega) (show p < f + n by omega) HT.out)
        go_wp2_with (refine wpList_store_row rfl 23 (.tmp 6) (.tmp 37) rfl _ #[Value.int .u8 0, Value.int .u8 0, Value.int .u8 0, Value.int .u8 0, Value.int .u8 0, Value.int .u8 0, Value.int .u8 0, Value.int .u8 0, Value.int .u8 0, Value.int .u8 0, Value.int .u8 0, Value.int .u8 0, Value.int .u8 0, Value.int .u8 0, Value.int .u8 0, Value.int .u8 0] rfl rfl _ (bvs z16).toArray bZ2 bm_size rfl z16_one ?_)
        generalize hX : World.setRow _ _ _ = X
        have bZX : X.heap[w.heap.size + 1]? = some (.cells (bvs z16).toArray 23) := by rw [← hX, z16_eq]; exact setRow_heap _ _ _ _ _ _ bZ2
        have hBX : Below w.heap.size w X := by rw [← hX]; exact bSetRow hB2 (by omega) _
        clear hX
        have hld := run_loadVar_row (P := Try.prog) X _ _ 23 _ _ _ bZX Try.underlying23 rfl (bm_info rfl)
        (try simp only [Exit.inBlock, Exit.then])
        refine bodyPost_ret (by simp [results, Try.results15, asAddr, Result.andThen, hld]; try rfl) rfl ?_
        exact Ret.mk (by rw [HV.out]) hBX
    · obtain rfl : k = n := by omega
      have HV : Hid (withR m f k = (putN m f k, 0)) := Lib.hid (withR_free h1 h2 hfr)
      have g1 : ¬ (p : Int) < (f : Int) + k := by omega
      generalize putN m f k = M at *
      go_wp2_with (first
        | (refine wpList_load_row rfl 23 (.tmp 3) rfl _ rfl _ (bvs M).toArray (0, 0) _ bM Try.underlying23 rfl (bm_info hML) ?_)
        | (refine wpList_store_row rfl 23 (.tmp 6) (.tmp 48) rfl _ (bvs M).toArray rfl rfl _ (bvs z16).toArray bZ (bm_info hML) (by simp [bvs, hML, z16]) (all_oneCell_toArray (oneCell_bvs _)) ?_))
      generalize hX : World.setRow _ _ _ = X
      have bZX : X.heap[w.heap.size + 1]? = some (.cells (bvs M).toArray 23) := by rw [← hX]; exact setRow_heap _ _ _ _ _ _ bZ
      have hBX : Below w.heap.size w X := by rw [← hX]; exact bSetRow hB (by omega) _
      clear hX
      have hld := run_loadVar_row (P := Try.prog) X _ _ 23 _ _ _ bZX Try.underlying23 rfl (bm_info hML)
      refine bodyPost_ret (by simp [results, Try.results15, asAddr, Result.andThen, hld]; try rfl) rfl ?_
      exact Ret.mk (by rw [HV.out]) hBX

theorem rwith_any {m : List UInt8} (hm : m.length = 16) (f n : Int) (w : World) :
    Calls Try.prog 15 #[bmv m, .int .i64 f, .int .i64 n] w (Ret w (.tuple #[bmv (withR m f n).1, .int .i64 (withR m f n).2])) := by
  by_cases h : n < 1 ∨ f < 0 ∨ 128 ≤ f ∨ 128 - f < n
  · exact rwith_arg hm f n h w
  · obtain ⟨a, rfl⟩ : ∃ a : Nat, f = (a : Int) := ⟨f.toNat, by omega⟩
    obtain ⟨b, rfl⟩ : ∃ b : Nat, n = (b : Int) := ⟨n.toNat, by omega⟩
    exact rwith_ok hm a b (by omega) (by omega) w
end Go.Proofs.Ythbaogjamenndaa
