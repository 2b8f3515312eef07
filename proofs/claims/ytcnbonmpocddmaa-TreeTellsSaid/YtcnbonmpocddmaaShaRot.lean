/- The walks over the small functions of sha and its reference: turns of a word, tables, a copy of bytes. -/
import Derived.Test.YtcnbonmpocddmaaProg
import Derived.Test.YtcnbonmpocddmaaShaPlain
import Derived.Test.YtcnbonmpocddmaaRow
namespace Go.Proofs.Ytcnbonmpocddmaa
set_option linter.unusedSimpArgs false
set_option linter.unusedVariables false
open Go.RowKit

theorem m_shl (x : W32) (n : Nat) : (x.toNat : Int) * 2 ^ n % 4294967296 = ((x <<< n).toNat : Int) := by rw [← w_shl, IntKind.wrap_u32]
theorem m_add (x y : W32) : ((x.toNat : Int) + (y.toNat : Int)) % 4294967296 = ((x + y).toNat : Int) := by rw [← w_add, IntKind.wrap_u32]
theorem rot_any (x : W32) {n : Nat} (h0 : 1 ≤ n) (h1 : n ≤ 31) (w : World) : Calls Try.prog 41 #[wv x, .int .i64 (-(n : Int))] w (fun e w' => e = .returned (wv (ror x n)) ∧ w = w') := by
  unfold wv
  have h2 : bits .and .u64 (IntKind.u64.wrap (-(n : Int))) 31 = 32 - n := by
    have : ∀ k : Fin 32, 1 ≤ k.val → bits .and .u64 (IntKind.u64.wrap (-((k.val : Nat) : Int))) 31 = 32 - ((k.val : Nat) : Int) := by decide
    exact this ⟨n, by omega⟩ h0
  go_enter Try.func41, Try.ntmps41
  go_wp2
  go_ret
  refine ⟨?_, rfl⟩
  show Ending.returned (.int .u32 _) = _
  rw [show 32 - (32 - n) = n from by omega, m_shl, w_shr, w_or, ror, BitVec.or_comm]
theorem rturn_any (x : W32) {n : Nat} (h0 : 1 ≤ n) (h1 : n ≤ 31) (w : World) : Calls Try.prog 39 #[wv x, .int .i64 (n : Int)] w (fun e w' => e = .returned (wv (ror x n)) ∧ w = w') := by
  unfold wv
  go_enter Try.func39, Try.ntmps39
  go_wp2
  go_ret
  refine ⟨?_, rfl⟩
  show Ending.returned (.int .u32 _) = _
  rw [m_shl, w_shr, w_or, ror]

/-- a word turned by each of some numbers, exclusive or -/
def trns (x : W32) (l : List Nat) : W32 := l.foldl (fun a n => a ^^^ ror x n) 0
def nvs (l : List Nat) : List Value := l.map fun n : Nat => Value.int .i64 (n : Int)
theorem trns_succ (x : W32) {l : List Nat} {k n : Nat} (h : l[k]? = some n) : trns x (l.take (k + 1)) = trns x (l.take k) ^^^ ror x n := by
  obtain ⟨hk, rfl⟩ := List.getElem?_eq_some_iff.1 h
  unfold trns
  rw [List.take_succ_eq_append_getElem hk, List.foldl_append]; rfl
set_option maxHeartbeats 1000000 in
theorem turned_any (x : W32) {l : List Nat} {B c : Nat} {A : Option Addr} (hl : ∀ n ∈ l, 1 ≤ n ∧ n ≤ 31) (hm : l.length ≤ maxLen) (w : World) (hs : Sl w B 1 A l.length (nvs l)) :
    Calls Try.prog 37 #[wv x, .slice A l.length c] w (fun e w' => e = .returned (wv (trns x l)) ∧ w = w') := by
  have hx := fun (n : Nat) (h : n ∈ l) W => rot_any x (hl n h).1 (hl n h).2 W
  simp only [maxLen] at hm
  unfold wv at *
  go_enter Try.func37, Try.ntmps37
  go_wp2_with fail
  go_loopw [5, 10] (fun o i wr => ∃ k : Nat, i = .int .i64 k ∧ o = wv (trns x (l.take k)) ∧ k ≤ l.length ∧ w = wr) (fun _ i _ => l.length - (intOf i).toNat)
  case atStart => exact ⟨0, rfl, rfl, by omega, rfl⟩
  case round =>
    obtain ⟨k, rfl, rfl, hk, rfl⟩ := hrel
    unfold wv
    by_cases hlt : k < l.length
    · obtain ⟨n, hn⟩ : ∃ n, l[k]? = some n := ⟨_, List.getElem?_eq_getElem hlt⟩
      obtain ⟨b, o, rfl, hb, hr⟩ := hs.at_ (by omega)
      have hc : w.cell? ⟨b, o + k, none⟩ = some (.int .i64 (n : Int)) := hr k _ (by unfold nvs; rw [List.getElem?_map, hn]; rfl)
      have hrot := hx n (List.mem_of_getElem? hn) w
      have HS := Lib.hid (trns_succ x hn)
      obtain ⟨t, ht⟩ : ∃ t, trns x (l.take k) = t := ⟨_, rfl⟩
      obtain ⟨r, hr'⟩ : ∃ r, ror x n = r := ⟨_, rfl⟩
      rw [ht, hr'] at HS
      rw [hr'] at hrot
      rw [ht]
      clear ht hr'
      have g1 : (k : Int) < l.length := by omega
      have hnl := hl n (List.mem_of_getElem? hn)
      have hneg : wrap64 (-(n : Int)) = -(n : Int) := by unfold wrap64; omega
      clear hn hr hs hx
      go_wp2_with fail
      refine hrot.mono ?_
      rintro e _ ⟨rfl, rfl⟩
      clear hrot
      go_wp2_with fail
      go_roundw
      case rel => exact ⟨k + 1, by go_num, by rw [HS.out, ← w_xor], by omega, trivial⟩
      case measure => simp [intOf]; omega
    · obtain rfl : k = l.length := by omega
      have g1 : ¬ (l.length : Int) < l.length := by omega
      go_wp2_with fail
      go_ret
      exact ⟨rfl, rfl⟩
theorem trns2 (x : W32) (a b : Nat) : trns x [a, b] = ror x a ^^^ ror x b := by simp [trns]
theorem trns3 (x : W32) (a b c : Nat) : trns x [a, b, c] = ror x a ^^^ ror x b ^^^ ror x c := by simp [trns]

/-! ### tables -/
def wsv (l : List W32) : Value := .agg (wvs l).toArray
def z64 : List W32 := List.replicate 64 0
def z8 : List W32 := List.replicate 8 0
theorem kTab_len : kTab.length = 64 := rfl
theorem w64Z : ZeroIs Try.prog 71 (wvs z64).toArray := by unfold ZeroIs; kernel_rfl
theorem w8Z : ZeroIs Try.prog 60 (wvs z8).toArray := by unfold ZeroIs; kernel_rfl
theorem w64_size : (Try.prog.info? 71).map (·.size) = some 64 := by kernel_rfl
theorem w8_size : (Try.prog.info? 60).map (·.size) = some 8 := by kernel_rfl
theorem w64_info {l : List W32} (h : l.length = 64) : (Try.prog.info? 71).map (·.size) = some (wvs l).toArray.size := by rw [List.size_toArray, wvs_len, h]; exact w64_size
theorem w8_info {l : List W32} (h : l.length = 8) : (Try.prog.info? 60).map (·.size) = some (wvs l).toArray.size := by rw [List.size_toArray, wvs_len, h]; exact w8_size
theorem ws_sizes {a b : List W32} {n : Nat} (ha : a.length = n) (hb : b.length = n) : (wvs a).toArray.size = (wvs b).toArray.size := by rw [List.size_toArray, List.size_toArray, wvs_len, wvs_len, ha, hb]
theorem oneCell_wvs (l : List W32) : ∀ u ∈ wvs l, u.oneCell' = true := by
  intro u hu
  simp only [wvs, List.mem_map] at hu
  obtain ⟨b, _, rfl⟩ := hu
  rfl
def kParts : Array (Nat × Operand) := (kTab.zipIdx.map fun (x, i) => (i, Operand.const (.int .u32 ((x.toNat : Nat) : Int)))).toArray
theorem kTab_built0 : Try.prog.built 71 (kTab.zipIdx.map fun (x, i) => (i, wv x)) = some (wvs kTab).toArray := by kernel_rfl
theorem kTab_built (a : Act) : Try.prog.built 71 (kParts.map fun (i, x) => (i, a.eval x)).toList = some (wvs kTab).toArray := by
  have : (kParts.map fun (i, x) => (i, a.eval x)).toList = kTab.zipIdx.map fun (x, i) => (i, wv x) := by
    unfold kParts
    rw [List.map_toArray, List.map_map]
    rfl
  rw [this]
  exact kTab_built0
set_option maxRecDepth 100000 in
theorem consts_any (w : World) : Calls Try.prog 35 #[] w (Ret w (wsv kTab)) := by
  unfold wsv
  have hkl := kTab_len
  go_enter Try.func35, Try.ntmps35
  go_wp2_with (first
    | (refine wpList_new rfl w64Z rfl ?_)
    | (refine wpList_built rfl 71 kParts rfl (kTab_built _) ?_)
    | (refine wpList_store_row rfl 71 (.tmp 0) (.tmp 1) rfl _ (wvs kTab).toArray rfl rfl _ (wvs z64).toArray (heap_alloc_new _ _) (w64_info rfl) rfl (all_oneCell_toArray (oneCell_wvs _)) ?_)
    | fail)
  generalize hX : World.setRow _ _ _ = X
  have bZX : X.heap[w.heap.size]? = some (.cells (wvs kTab).toArray 71) := by rw [← hX]; exact setRow_heap _ _ _ _ _ _ (heap_alloc_new _ _)
  have hBX : Below w.heap.size w X := by rw [← hX]; exact bSetRow ((Below.refl _ _).alloc (Nat.le_refl _) _) (Nat.le_refl _) _
  clear hX
  have hld := run_loadVar_row (P := Try.prog) X _ _ 71 _ _ _ bZX Try.underlying71 rfl (w64_info rfl)
  refine bodyPost_ret (by simp [results, Try.results35, Act.put, asAddr, Result.andThen, hld]; try rfl) rfl ?_
  exact Ret.mk rfl hBX
set_option maxRecDepth 100000 in
theorem rconsts_any (w : World) : Calls Try.prog 40 #[] w (Ret w (wsv kTab)) := by
  unfold wsv
  have hkl := kTab_len
  go_enter Try.func40, Try.ntmps40
  go_wp2_with (first
    | (refine wpList_new rfl w64Z rfl ?_)
    | (refine wpList_built rfl 71 kParts rfl (kTab_built _) ?_)
    | (refine wpList_store_row rfl 71 (.tmp 0) (.tmp 1) rfl _ (wvs kTab).toArray rfl rfl _ (wvs z64).toArray (heap_alloc_new _ _) (w64_info rfl) rfl (all_oneCell_toArray (oneCell_wvs _)) ?_)
    | fail)
  generalize hX : World.setRow _ _ _ = X
  have bZX : X.heap[w.heap.size]? = some (.cells (wvs kTab).toArray 71) := by rw [← hX]; exact setRow_heap _ _ _ _ _ _ (heap_alloc_new _ _)
  have hBX : Below w.heap.size w X := by rw [← hX]; exact bSetRow ((Below.refl _ _).alloc (Nat.le_refl _) _) (Nat.le_refl _) _
  clear hX
  have hld := run_loadVar_row (P := Try.prog) X _ _ 71 _ _ _ bZX Try.underlying71 rfl (w64_info rfl)
  refine bodyPost_ret (by simp [results, Try.results40, Act.put, asAddr, Result.andThen, hld]; try rfl) rfl ?_
  exact Ret.mk rfl hBX
end Go.Proofs.Ytcnbonmpocddmaa
