
/- The walks over package bitmap and its reference: Has, With, Or, Count. -/
import Derived.Test.YtnkdbkgihemjnaaRow
import Derived.Test.YtnkdbkgihemjnaaBmpPlain2
import Derived.Test.YtnkdbkgihemjnaaBut
import Derived.Test.YtnkdbkgihemjnaaProg
import Derived.Lib.MinMax
import Derived.StillTailTactics
namespace Go.Proofs.Ytnkdbkgihemjnaa
set_option linter.unusedSimpArgs false
set_option linter.unusedVariables false
open Go.RowKit

def bmv (m : List UInt8) : Value := .agg (bvs m).toArray
theorem heap_alloc_new2 (w : World) (o1 o2 : Obj) : ((w.alloc o1).alloc o2).heap[w.heap.size + 1]? = some o2 := by
  have := heap_alloc_new (w.alloc o1) o2
  rwa [World.size_alloc] at this
theorem bm_size : (Try.prog.info? 36).map (·.size) = some 16 := by kernel_rfl
theorem bm_info {m : List UInt8} (hm : m.length = 16) : (Try.prog.info? 36).map (·.size) = some (bvs m).toArray.size := by
  rw [List.size_toArray, bvs_len, hm]; exact bm_size
theorem byte_cell {m : List UInt8} (hm : m.length = 16) {i : Nat} (hi : i < 16) : (bvs m).toArray[i]? = some (.int .u8 ((byteAt m i).toNat : Int)) := by
  simp [bvs, bv, byteAt, List.getElem?_eq_getElem (show i < m.length by omega)]
theorem wrap_u8 (x : Int) : IntKind.u8.wrap x = x % 256 := rfl
theorem u8_and (a b : Nat) (ha : a < 256) (hb : b < 256) : bits .and .u8 (a : Int) (b : Int) = ((a &&& b : Nat) : Int) :=
  (bits_nat .u8 8 (by decide) (fun n h0 h1 => by rw [wrap_u8]; omega) a b ha hb).1
theorem u8_or (a b : Nat) (ha : a < 256) (hb : b < 256) : bits .or .u8 (a : Int) (b : Int) = ((a ||| b : Nat) : Int) :=
  (bits_nat .u8 8 (by decide) (fun n h0 h1 => by rw [wrap_u8]; omega) a b ha hb).2
theorem u8_bit (x : UInt8) (c : Nat) : bits .and .u8 ((x.toNat : Int) / 2 ^ c) 1 = if x.toNat.testBit c = true then 1 else 0 := by
  have h1 : ((x.toNat : Int) / 2 ^ c) = ((x.toNat / 2 ^ c : Nat) : Int) := by
    rw [Int.natCast_ediv, Int.natCast_pow]; rfl
  have h2 : x.toNat / 2 ^ c < 256 := Nat.lt_of_le_of_lt (Nat.div_le_self _ _) x.toNat_lt
  rw [h1, show (1 : Int) = ((1 : Nat) : Int) from rfl, u8_and _ _ h2 (by omega), Nat.and_one_is_mod, Nat.testBit_eq_decide_div_mod_eq]
  rcases Nat.mod_two_eq_zero_or_one (x.toNat / 2 ^ c) with h | h
  · rw [h]; rfl
  · rw [h]; rfl

set_option maxRecDepth 100000 in
theorem has_any {m : List UInt8} (hm : m.length = 16) (b : Int) (w : World) : Calls Try.prog 73 #[bmv m, .int .i64 b] w (Ret w (.bool (hasB m b))) := by
  unfold bmv
  by_cases h0 : b < 0
  · have HV : Hid (hasB m b = true) := Lib.hid (by simp [hasB, h0])
    go_enter Try.func73, Try.ntmps73
    go_wp2
    go_ret
    exact Ret.mk (by rw [HV.out]; rfl) (by repeat (first | (with_reducible exact Below.refl _ _) | (with_reducible refine bDrewN ?_ _) | (with_reducible refine Below.drew ?_) | (with_reducible refine Below.alloc ?_ ?_ _) | (with_reducible refine Below.setCell ?_ ?_ _) | (with_reducible assumption) | go_size))
  · by_cases h1 : (128 : Int) ≤ b
    · have HV : Hid (hasB m b = true) := Lib.hid (by simp [hasB, h1])
      go_enter Try.func73, Try.ntmps73
      go_wp2
      go_ret
      exact Ret.mk (by rw [HV.out]; rfl) (by repeat (first | (with_reducible exact Below.refl _ _) | (with_reducible refine bDrewN ?_ _) | (with_reducible refine Below.drew ?_) | (with_reducible refine Below.alloc ?_ ?_ _) | (with_reducible refine Below.setCell ?_ ?_ _) | (with_reducible assumption) | go_size))
    · obtain ⟨k, rfl⟩ : ∃ k : Nat, b = (k : Int) := ⟨b.toNat, by omega⟩
      have hk : k < 128 := by omega
      obtain ⟨q, hq⟩ : ∃ q, k / 8 = q := ⟨_, rfl⟩
      obtain ⟨c, hc⟩ : ∃ c, k % 8 = c := ⟨_, rfl⟩
      have hq16 : q < 16 := by omega
      have hc8 : c < 8 := by omega
      have e1 : Int.tdiv (k : Int) 8 = (q : Int) := by rw [Int.tdiv_eq_ediv_of_nonneg (by omega)]; omega
      have e2 : Int.tmod (k : Int) 8 = (c : Int) := by rw [Int.tmod_eq_emod_of_nonneg (by omega)]; omega
      have e3 : (k : Int) / 8 = (q : Int) := by omega
      have e4 : (k : Int) % 8 = (c : Int) := by omega
      have hcell := byte_cell hm hq16
      have hbit := u8_bit (byteAt m q) c
      have HV : Hid (hasB m k = (byteAt m q).toNat.testBit c) := Lib.hid (by rw [hasB_nat hk]; unfold bit; rw [hq, hc])
      have x0 : (0 : Int) ≤ ((byteAt m q).toNat : Int) := by omega
      generalize (byteAt m q).toNat.testBit c = t at *
      generalize ((byteAt m q).toNat : Int) = x at *
      clear hq hc
      go_enter Try.func73, Try.ntmps73
      have cw : IntKind.u64.wrap (c : Int) = c := by show (c : Int) % 18446744073709551616 = c; omega
      cases t
      · go_wp2
        go_ret
        exact Ret.mk (by rw [HV.out]; rfl) (by repeat (first | (with_reducible exact Below.refl _ _) | (with_reducible refine bDrewN ?_ _) | (with_reducible refine Below.drew ?_) | (with_reducible refine Below.alloc ?_ ?_ _) | (with_reducible refine Below.setCell ?_ ?_ _) | (with_reducible assumption) | go_size))
      · go_wp2
        go_ret
        exact Ret.mk (by rw [HV.out]; rfl) (by repeat (first | (with_reducible exact Below.refl _ _) | (with_reducible refine bDrewN ?_ _) | (with_reducible refine Below.drew ?_) | (with_reducible refine Below.alloc ?_ ?_ _) | (with_reducible refine Below.setCell ?_ ?_ _) | (with_reducible assumption) | go_size))
set_option maxRecDepth 100000 in
theorem rhasb_any {m : List UInt8} (hm : m.length = 16) (b : Int) (w : World) : Calls Try.prog 75 #[bmv m, .int .i64 b] w (Ret w (.bool (hasB m b))) := by
  unfold bmv
  by_cases h0 : b < 0
  · have HV : Hid (hasB m b = true) := Lib.hid (by simp [hasB, h0])
    go_enter Try.func75, Try.ntmps75
    go_wp2
    go_ret
    exact Ret.mk (by rw [HV.out]; rfl) (by repeat (first | (with_reducible exact Below.refl _ _) | (with_reducible refine bDrewN ?_ _) | (with_reducible refine Below.drew ?_) | (with_reducible refine Below.alloc ?_ ?_ _) | (with_reducible refine Below.setCell ?_ ?_ _) | (with_reducible assumption) | go_size))
  · by_cases h1 : (128 : Int) ≤ b
    · have HV : Hid (hasB m b = true) := Lib.hid (by simp [hasB, h1])
      go_enter Try.func75, Try.ntmps75
      go_wp2
      go_ret
      exact Ret.mk (by rw [HV.out]; rfl) (by repeat (first | (with_reducible exact Below.refl _ _) | (with_reducible refine bDrewN ?_ _) | (with_reducible refine Below.drew ?_) | (with_reducible refine Below.alloc ?_ ?_ _) | (with_reducible refine Below.setCell ?_ ?_ _) | (with_reducible assumption) | go_size))
    · obtain ⟨k, rfl⟩ : ∃ k : Nat, b = (k : Int) := ⟨b.toNat, by omega⟩
      have hk : k < 128 := by omega
      obtain ⟨q, hq⟩ : ∃ q, k / 8 = q := ⟨_, rfl⟩
      obtain ⟨c, hc⟩ : ∃ c, k % 8 = c := ⟨_, rfl⟩
      have hq16 : q < 16 := by omega
      have hc8 : c < 8 := by omega
      have e1 : Int.tdiv (k : Int) 8 = (q : Int) := by rw [Int.tdiv_eq_ediv_of_nonneg (by omega)]; omega
      have e2 : Int.tmod (k : Int) 8 = (c : Int) := by rw [Int.tmod_eq_emod_of_nonneg (by omega)]; omega
      have e3 : (k : Int) / 8 = (q : Int) := by omega
      have e4 : (k : Int) % 8 = (c : Int) := by omega
      have hcell := byte_cell hm hq16
      have hbit := u8_bit (byteAt m q) c
      have HV : Hid (hasB m k = (byteAt m q).toNat.testBit c) := Lib.hid (by rw [hasB_nat hk]; unfold bit; rw [hq, hc])
      have x0 : (0 : Int) ≤ ((byteAt m q).toNat : Int) := by omega
      generalize (byteAt m q).toNat.testBit c = t at *
      generalize ((byteAt m q).toNat : Int) = x at *
      clear hq hc
      go_enter Try.func75, Try.ntmps75
      have cw : IntKind.u64.wrap (c : Int) = c := by show (c : Int) % 18446744073709551616 = c; omega
      cases t
      · go_wp2
        go_ret
        exact Ret.mk (by rw [HV.out]; rfl) (by repeat (first | (with_reducible exact Below.refl _ _) | (with_reducible refine bDrewN ?_ _) | (with_reducible refine Below.drew ?_) | (with_reducible refine Below.alloc ?_ ?_ _) | (with_reducible refine Below.setCell ?_ ?_ _) | (with_reducible assumption) | go_size))
      · go_wp2
        go_ret
        exact Ret.mk (by rw [HV.out]; rfl) (by repeat (first | (with_reducible exact Below.refl _ _) | (with_reducible refine bDrewN ?_ _) | (with_reducible refine Below.drew ?_) | (with_reducible refine Below.alloc ?_ ?_ _) | (with_reducible refine Below.setCell ?_ ?_ _) | (with_reducible assumption) | go_size))

/-! ### With -/
theorem put_cells {M : List UInt8} {b : Nat} (hM : M.length = 16) (hb : b < 128) : (bvs M).toArray.setIfInBounds (b / 8) (.int .u8 (((byteAt M (b / 8) ||| UInt8.ofNat (2 ^ (b % 8))).toNat : Nat) : Int)) = (bvs (putB M b)).toArray := by
  simp [putB, bvs, bv, List.map_set]
theorem or_pow {x : UInt8} {c : Nat} (hc : c < 8) : bits .or .u8 (x.toNat : Int) (2 ^ c) = (((x ||| UInt8.ofNat (2 ^ c)).toNat : Nat) : Int) := by
  have h : (2 : Int) ^ c = ((2 ^ c : Nat) : Int) := by rw [Int.natCast_pow]; rfl
  have h2 : 2 ^ c < 256 := Nat.lt_of_lt_of_le (Nat.pow_lt_pow_right (by omega) hc) (by decide)
  rw [h, u8_or _ _ x.toNat_lt h2, UInt8.toNat_or, u8_pow hc]

end Go.Proofs.Ytnkdbkgihemjnaa
