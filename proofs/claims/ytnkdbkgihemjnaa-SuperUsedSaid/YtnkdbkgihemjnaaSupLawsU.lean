/- The walk over SuperUsed, and what it rests on: a bitmap with one bit turned. -/
import Derived.Test.YtnkdbkgihemjnaaSupArg
namespace Go.Proofs.Ytnkdbkgihemjnaa
set_option linter.unusedSimpArgs false
set_option linter.unusedVariables false
open Go.RowKit Go.ChangeShapes Go.WideShapes Go.Sort

def togB (m : List UInt8) (b : Nat) : List UInt8 := m.set (b / 8) (byteAt m (b / 8) ^^^ UInt8.ofNat (2 ^ (b % 8)))
theorem togB_len (m : List UInt8) (b : Nat) : (togB m b).length = m.length := by simp [togB]
theorem bit_togB {m : List UInt8} {b c : Nat} (hm : m.length = 16) (hb : b < 128) : bit (togB m b) c = (bit m c ^^ decide (b = c)) := by
  unfold bit togB
  rw [byteAt_set (by omega)]
  split
  · rename_i e
    rw [UInt8.toNat_xor, Nat.testBit_xor, u8_pow (by omega), e]
    congr 1
    rw [Nat.testBit_two_pow, Bool.eq_iff_iff]
    simp only [decide_eq_true_eq]
    constructor
    · intro h; omega
    · intro h; omega
  · rename_i e
    have : ¬ b = c := fun h => e (by rw [h])
    simp [this]
theorem cnt_mono (m : List UInt8) (n d : Nat) : cntTo m n ≤ cntTo m (n + d) := by
  induction d with
  | zero => exact Nat.le_refl _
  | succ d ih => rw [show n + (d + 1) = (n + d) + 1 from rfl, cntTo_succ]; omega
theorem cnt_none {m : List UInt8} {n d : Nat} : cntTo m (n + d) = cntTo m n ↔ ∀ c, n ≤ c → c < n + d → bit m c = false := by
  induction d with
  | zero =>
    constructor
    · intro _ c h1 h2; omega
    · intro _; rfl
  | succ d ih =>
    rw [show n + (d + 1) = (n + d) + 1 from rfl, cntTo_succ]
    have hm := cnt_mono m n d
    constructor
    · intro h c h1 h2
      have hb : bit m (n + d) = false := by
        cases hb : bit m (n + d)
        · rfl
        · rw [hb] at h; simp at h; omega
      have h3 : cntTo m (n + d) = cntTo m n := by rw [hb] at h; simpa using h
      by_cases e : c = n + d
      · rw [e]; exact hb
      · exact ih.1 h3 c h1 (by omega)
    · intro h
      rw [h (n + d) (by omega) (by omega), ih.2 (fun c h1 h2 => h c h1 (by omega))]
      rfl
theorem good_bits {s : SP} : s.good = true ↔ s.nums = true ∧ bit s.used 0 = true ∧ bit s.used 1 = true ∧ ∀ c, (min s.blocks 128).toNat ≤ c → c < 128 → bit s.used c = false := by
  unfold SP.good SP.bits
  rw [Bool.and_eq_true, Bool.and_eq_true, Bool.and_eq_true, decide_eq_true_eq, show (0 : Int) = ((0 : Nat) : Int) from rfl, show (1 : Int) = ((1 : Nat) : Int) from rfl, hasB_nat (by omega), hasB_nat (by omega)]
  have key : cntTo s.used 128 = cntTo s.used (min s.blocks 128).toNat ↔ ∀ c, (min s.blocks 128).toNat ≤ c → c < 128 → bit s.used c = false := by
    have := cnt_none (m := s.used) (n := (min s.blocks 128).toNat) (d := 128 - (min s.blocks 128).toNat)
    rwa [show (min s.blocks 128).toNat + (128 - (min s.blocks 128).toNat) = 128 from by omega] at this
  rw [key]
  constructor
  · rintro ⟨a, ⟨b, c⟩, d⟩; exact ⟨a, b, c, d⟩
  · rintro ⟨a, b, c, d⟩; exact ⟨a, ⟨b, c⟩, d⟩
def SP.tog (s : SP) (k : Nat) : SP := { s with used := togB s.used k }
def SP.rooted (s : SP) (r : Int) : SP := { s with root := r }
theorem SP.Ok.tog {s : SP} (h : s.Ok) (k : Nat) : (s.tog k).Ok := ⟨h.gen, h.bl, h.rt, h.log, by show (togB s.used k).length = 16; rw [togB_len]; exact h.used⟩
theorem SP.Ok.rooted {s : SP} (h : s.Ok) {r : Int} (hr : -9223372036854775808 ≤ r ∧ r ≤ 9223372036854775807) : (s.rooted r).Ok := ⟨h.gen, h.bl, hr, h.log, h.used⟩
theorem tog_good {s : SP} (h : s.Ok) (hg : s.good = true) {k : Nat} (hk : k < 128) : (s.tog k).good = (decide (2 ≤ (k : Int)) && decide ((k : Int) < s.blocks)) := by
  obtain ⟨-, -, n3, n4, -⟩ := good_nums hg
  obtain ⟨g1, g2, g3, g4⟩ := good_bits.1 hg
  rw [Bool.eq_iff_iff, good_bits, Bool.and_eq_true, decide_eq_true_eq, decide_eq_true_eq]
  have hu := h.used
  have hb : ∀ c, bit (s.tog k).used c = (bit s.used c ^^ decide (k = c)) := fun c => bit_togB hu hk
  rw [hb, hb, g2, g3]
  constructor
  · rintro ⟨-, a, b, c⟩
    have k0 : k ≠ 0 := by rintro rfl; simp at a
    have k1 : k ≠ 1 := by rintro rfl; simp at b
    refine ⟨by omega, ?_⟩
    by_cases hlt : (k : Int) < s.blocks
    · exact hlt
    · have h1 : (min (s.tog k).blocks 128).toNat ≤ k := by show (min s.blocks 128).toNat ≤ k; omega
      have h2 := c k h1 hk
      rw [hb, g4 k (by omega) hk] at h2
      simp at h2
  · rintro ⟨a, b⟩
    refine ⟨g1, ?_, ?_, fun c h1 h2 => ?_⟩
    · have : ¬ k = 0 := by omega
      simp [this]
    · have : ¬ k = 1 := by omega
      simp [this]
    · have h1' : (min s.blocks 128).toNat ≤ c := h1
      have : ¬ k = c := by omega
      rw [hb, g4 c h1' h2]
      simp [this]
theorem rooted_good {s : SP} (hg : s.good = true) (r : Int) : (s.rooted r).good = (decide (r = 0) || (decide (2 ≤ r) && decide (r < s.blocks))) := by
  obtain ⟨n1, n2, n3, n4, n5⟩ := good_nums hg
  obtain ⟨g1, g2, g3, g4⟩ := good_bits.1 hg
  rw [Bool.eq_iff_iff, good_bits, Bool.or_eq_true, Bool.and_eq_true, decide_eq_true_eq, decide_eq_true_eq, decide_eq_true_eq]
  constructor
  · rintro ⟨h, -⟩
    have h' : decide (1 ≤ s.gen ∧ s.gen < 1073741824 ∧ 16 ≤ s.blocks ∧ s.blocks ≤ 128 ∧ (r = 0 ∨ (2 ≤ r ∧ r < s.blocks))) = true := h
    exact (decide_eq_true_eq.mp h').2.2.2.2
  · intro h
    refine ⟨?_, g2, g3, g4⟩
    show decide (1 ≤ s.gen ∧ s.gen < 1073741824 ∧ 16 ≤ s.blocks ∧ s.blocks ≤ 128 ∧ (r = 0 ∨ (2 ≤ r ∧ r < s.blocks))) = true
    exact decide_eq_true_eq.mpr ⟨n1, n2, n3, n4, h⟩
theorem tog_cells {M : List UInt8} {b : Nat} (hM : M.length = 16) (hb : b < 128) : (bvs M).toArray.setIfInBounds (b / 8) (.int .u8 (((byteAt M (b / 8) ^^^ UInt8.ofNat (2 ^ (b % 8))).toNat : Nat) : Int)) = (bvs (togB M b)).toArray := by
  simp [togB, bvs, bv, List.map_set]

/-! ### the walk -/
theorem cells_used {s : SP} (h : s.Ok) : ∃ X : List Value, s.cells = X ++ bvs s.used ∧ X.length = 35 ∧ ∀ m, (SP.mk s.gen s.blocks s.root s.log m).cells = X ++ bvs m := by
  refine ⟨[.int .u32 (s.gen : Int), .int .i64 s.blocks, .int .i64 s.root] ++ bvs s.log, rfl, ?_, fun m => rfl⟩
  rw [List.length_append, bvs_len, h.log]; rfl
theorem tog_row {s : SP} (h : s.Ok) {k : Nat} (hk : k < 128) :
    s.cells.toArray[35 + k / 8]? = some (.int .u8 ((byteAt s.used (k / 8)).toNat : Int)) ∧
    s.cells.toArray.setIfInBounds (35 + k / 8) (.int .u8 (((byteAt s.used (k / 8) ^^^ UInt8.ofNat (2 ^ (k % 8))).toNat : Nat) : Int)) = (s.tog k).cells.toArray := by
  obtain ⟨X, h1, h2, h3⟩ := cells_used h
  have e : (s.tog k).cells = X ++ bvs (togB s.used k) := h3 _
  have ht := tog_cells h.used hk
  rw [List.setIfInBounds_toArray] at ht
  have ht2 : (bvs s.used).set (k / 8) (.int .u8 (((byteAt s.used (k / 8) ^^^ UInt8.ofNat (2 ^ (k % 8))).toNat : Nat) : Int)) = bvs (togB s.used k) := by
    have := congrArg Array.toList ht
    simpa using this
  have hc := byte_cell h.used (i := k / 8) (by omega)
  rw [h1, e]
  constructor
  · rw [List.getElem?_toArray, List.getElem?_append_right (by omega), h2, Nat.add_sub_cancel_left]
    simpa using hc
  · rw [List.setIfInBounds_toArray, List.set_append_right _ _ (by omega), h2, Nat.add_sub_cancel_left, ht2]
theorem xor_pow {x : UInt8} {c : Nat} (hc : c < 8) : bits .xor .u8 (x.toNat : Int) (2 ^ c) = (((x ^^^ UInt8.ofNat (2 ^ c)).toNat : Nat) : Int) := by
  have h : (2 : Int) ^ c = ((2 ^ c : Nat) : Int) := by rw [Int.natCast_pow]; rfl
  have h2 : 2 ^ c < 256 := Nat.lt_of_lt_of_le (Nat.pow_lt_pow_right (by omega) hc) (by decide)
  rw [h, u8_xor_nat _ _ x.toNat_lt h2, UInt8.toNat_xor, u8_pow hc]

set_option maxHeartbeats 16000000 in
set_option maxRecDepth 100000 in
theorem superUsed_no {s : SP} (hs : s.Ok) (b : UInt8) (r : Int) (hg : s.good = false) (w : World) : Calls Try.prog 14 #[spv s, .int .u8 (b.toNat : Int), .int .i64 r] w (Ret w (.bool true)) := by
  have hgd := fun W => good_any hs W
  have hrgd := fun W => rgood_any hs W
  rw [hg] at hgd hrgd
  unfold spv at hgd hrgd
  unfold spv
  have i2 := sp_info hs
  obtain ⟨cs, hcs⟩ : ∃ cs, s.cells.toArray = cs := ⟨_, rfl⟩
  rw [hcs] at i2 hgd hrgd
  rw [hcs]
  clear hcs hg
  go_enter Try.func14, Try.ntmps14
  go_upto_region 1 with (fail)
  obtain ⟨W, hW⟩ : ∃ W, w.alloc (.cells cs 38) = W := ⟨_, rfl⟩
  try rw [hW]
  have a3 : W.heap[w.heap.size]? = some (.cells cs 38) := by rw [← hW]; exact heap_alloc_new _ _
  have hB : Below w.heap.size w W := by rw [← hW]; exact (Below.refl _ _).alloc (Nat.le_refl _) _
  clear hW
  go_upto_region 2 with (first
    | (refine wpList_load_row_g (by simp [Region.wanted, yielded, Act.put]) 38 (.tmp 3) rfl _ rfl _ cs (0, 0) _ a3 Try.underlying38 rfl i2 ?_)
    | (go_at_call 50; refine Calls.mono (hrgd _) ?_; rintro e W1 ⟨rfl, hb1⟩)
    | fail)
  have a31 := bBlk hb1 (Array.getElem?_eq_some_iff.1 a3).1 a3
  go_wp2_with (first
    | (refine wpList_load_row_g (by simp [Region.wanted, yielded, Act.put]) 38 (.tmp 3) rfl _ rfl _ cs (0, 0) _ a31 Try.underlying38 rfl i2 ?_)
    | (go_at_call 49; refine Calls.mono (hgd _) ?_; rintro e W2 ⟨rfl, hb2⟩)
    | (go_at_call 16; refine Calls.mono (wakes07_any _) ?_; rintro e W3 ⟨rfl, hb3⟩)
    | fail)
  go_ret
  exact Ret.mk rfl (hB.trans ((hb1.trans ((hb2.trans (hb3.mono hb2.size)).mono hb1.size)).mono hB.size))

set_option maxHeartbeats 16000000 in
set_option maxRecDepth 100000 in
theorem superUsed_yes {s : SP} (hs : s.Ok) (b : UInt8) (r : Int) (hr : -9223372036854775808 ≤ r ∧ r ≤ 9223372036854775807) (hg : s.good = true) (w : World) : Calls Try.prog 14 #[spv s, .int .u8 (b.toNat : Int), .int .i64 r] w (Ret w (.bool true)) := by
  have hrgd := fun W => rgood_any hs W
  rw [hg] at hrgd
  obtain ⟨k, hk⟩ : ∃ k, b.toNat % 128 = k := ⟨_, rfl⟩
  have hk128 : k < 128 := by omega
  obtain ⟨q, hq⟩ : ∃ q, k / 8 = q := ⟨_, rfl⟩
  obtain ⟨c, hc⟩ : ∃ c, k % 8 = c := ⟨_, rfl⟩
  have hb := b.toNat_lt
  have hgt := fun W => good_any (hs.tog k) W
  have hgu := fun W => good_any (hs.rooted hr) W
  have tg := tog_good hs hg hk128
  have rg := rooted_good hg r
  obtain ⟨r1, r2⟩ := tog_row hs hk128
  have hxr := xor_pow (x := byteAt s.used (k / 8)) (c := k % 8) (by omega)
  rw [hq] at r1 r2 hxr
  rw [hc] at r2 hxr
  unfold spv at hrgd hgt hgu
  unfold spv
  have i2 := sp_info hs
  have iT := sp_info (hs.tog k)
  have iU := sp_info (hs.rooted hr)
  have sz0 := sp_sizes sp0_ok hs
  have hone := all_oneCell_toArray (one_sp s)
  have c1 : s.cells.toArray[1]? = some (.int .i64 s.blocks) := rfl
  have hroot : s.cells.toArray.setIfInBounds 2 (.int .i64 r) = (s.rooted r).cells.toArray := rfl
  have c2 : s.cells.toArray[2]? = some (.int .i64 s.root) := rfl
  obtain ⟨cs, hcs⟩ : ∃ cs, s.cells.toArray = cs := ⟨_, rfl⟩
  obtain ⟨cT, hcT⟩ : ∃ cs, (s.tog k).cells.toArray = cs := ⟨_, rfl⟩
  obtain ⟨cU, hcU⟩ : ∃ cs, (s.rooted r).cells.toArray = cs := ⟨_, rfl⟩
  rw [hcs] at i2 hrgd r1 r2 c1 c2 hroot sz0 hone
  rw [hcT] at r2 hgt iT
  rw [hcU] at hroot hgu iU
  rw [hcs]
  clear hcs hcT hcU
  obtain ⟨x0, hx0⟩ : ∃ x : Nat, (byteAt s.used q).toNat = x := ⟨_, rfl⟩
  have x255 : x0 < 256 := by rw [← hx0]; exact UInt8.toNat_lt _
  rw [hx0] at r1 hxr
  obtain ⟨V, hV⟩ : ∃ x : Nat, (byteAt s.used q ^^^ UInt8.ofNat (2 ^ c)).toNat = x := ⟨_, rfl⟩
  rw [hV] at r2 hxr
  clear hx0 hV
  have hq16 : q < 16 := by omega
  have hq16' : (q : Int) < 16 := by omega
  have hc8 : c < 8 := by omega
  have e0 : ((b.toNat : Nat) : Int) % 128 = (k : Int) := by omega
  have e3 : (k : Int) / 8 = (q : Int) := by omega
  have e4 : (k : Int) % 8 = (c : Int) := by omega
  have sh : IntKind.u8.wrap ((2 : Int) ^ c) = 2 ^ c := by
    match c, hc8 with
    | 0, _ | 1, _ | 2, _ | 3, _ | 4, _ | 5, _ | 6, _ | 7, _ => rfl
  clear hk hq hc
  go_enter Try.func14, Try.ntmps14
  go_upto_region 1 with (fail)
  obtain ⟨W, hW⟩ : ∃ W, w.alloc (.cells cs 38) = W := ⟨_, rfl⟩
  try rw [hW]
  have a3 : W.heap[w.heap.size]? = some (.cells cs 38) := by rw [← hW]; exact heap_alloc_new _ _
  have hB : Below w.heap.size w W := by rw [← hW]; exact (Below.refl _ _).alloc (Nat.le_refl _) _
  clear hW
  go_upto_region 3 with (first
    | (refine wpList_load_row_g (by simp [Region.wanted, yielded, Act.put]) 38 (.tmp 3) rfl _ rfl _ cs (0, 0) _ a3 Try.underlying38 rfl i2 ?_)
    | (go_at_call 50; refine Calls.mono (hrgd _) ?_; rintro e W1 ⟨rfl, hb1⟩)
    | fail)
  replace a3 := bBlk hb1 (Array.getElem?_eq_some_iff.1 a3).1 a3
  replace hB := hB.trans (hb1.mono hB.size)
  clear hb1 hrgd
  go_upto_region 4 with (fail)
  obtain ⟨Y8, hY, a8, bY⟩ := newRow W1 sp0.cells.toArray cs 38
  have a38 := bBlk bY (Array.getElem?_eq_some_iff.1 a3).1 a3
  have hB8 := hB.trans (bY.mono hB.size)
  have g38 := (Array.getElem?_eq_some_iff.1 a3).1
  go_upto_region 5 with (first
    | (refine wpList_load_row_g (by simp [Region.wanted, yielded, Act.put]) 38 (.tmp 3) rfl _ rfl _ cs (0, 0) _ a3 Try.underlying38 rfl i2 ?_)
    | (refine wpList_new rfl spZ rfl ?_)
    | (refine wpList_store_row rfl 38 (.tmp 8) (.tmp 22) rfl _ cs rfl rfl _ sp0.cells.toArray (heap_alloc_new _ _) i2 sz0 hone ?_)
    | fail)
  try rw [hY]
  clear hY bY hB
  have f8 := blk_frozen a8 (35 + q)
  have d8 := blk_cell a8 r1
  go_upto_region 6 with (fail)
  have b8 := blk_set a8 (35 + q) (.int .u8 (V : Int))
  rw [r2] at b8
  have bY : Below W1.heap.size Y8 (Y8.setCell ⟨W1.heap.size, 35 + q, none⟩ (.int .u8 (V : Int))) := (Below.refl W1.heap.size Y8).setCell (p := ⟨W1.heap.size, 35 + q, none⟩) (Nat.le_refl _) _
  obtain ⟨Z8, hY⟩ : ∃ Y, Y8.setCell ⟨W1.heap.size, 35 + q, none⟩ (.int .u8 (V : Int)) = Y := ⟨_, rfl⟩
  rw [hY] at b8 bY
  try rw [hY]
  have a39 := bBlk bY g38 a38
  have hB9 := hB8.trans (bY.mono (by have := hB8.size; have h2 := (Array.getElem?_eq_some_iff.1 a8).1; omega))
  clear hY a38 f8 d8 hB8 bY a8
  obtain ⟨Y9, hY, a9, bY⟩ := newRow Z8 sp0.cells.toArray cs 38
  have a310 := bBlk bY (Array.getElem?_eq_some_iff.1 a39).1 a39
  have b810 := bBlk bY (Array.getElem?_eq_some_iff.1 b8).1 b8
  have g8 := (Array.getElem?_eq_some_iff.1 b8).1
  have hB10 := hB9.trans (bY.mono hB9.size)
  go_upto_region 7 with (first
    | (refine wpList_load_row_g (by simp [Region.wanted, yielded, Act.put]) 38 (.tmp 3) rfl _ rfl _ cs (0, 0) _ a39 Try.underlying38 rfl i2 ?_)
    | (refine wpList_new rfl spZ rfl ?_)
    | (refine wpList_store_row rfl 38 (.tmp 9) (.tmp 35) rfl _ cs rfl rfl _ sp0.cells.toArray (heap_alloc_new _ _) i2 sz0 hone ?_)
    | fail)
  try rw [hY]
  clear hY bY hB9 a39 b8
  have f9 := blk_frozen a9 2
  have d9 := blk_cell a9 c2
  go_upto_region 8 with (fail)
  have b9 := blk_set a9 2 (.int .i64 r)
  rw [hroot] at b9
  have bY : Below Z8.heap.size Y9 (Y9.setCell ⟨Z8.heap.size, 2, none⟩ (.int .i64 r)) := (Below.refl Z8.heap.size Y9).setCell (p := ⟨Z8.heap.size, 2, none⟩) (Nat.le_refl _) _
  obtain ⟨Z9, hY⟩ : ∃ Y, Y9.setCell ⟨Z8.heap.size, 2, none⟩ (.int .i64 r) = Y := ⟨_, rfl⟩
  rw [hY] at b9 bY
  try rw [hY]
  have a311 := bBlk bY (by omega) a310
  have b811 := bBlk bY g8 b810
  have hB11 := hB10.trans (bY.mono (by have := hB10.size; have h2 := (Array.getElem?_eq_some_iff.1 a9).1; omega))
  clear hY a310 b810 f9 d9 hB10 bY a9 hxr e0 e3 e4 sh
  have hkc : (¬ (2 : Int) ≤ (k : Int)) ∨ ((2 : Int) ≤ (k : Int) ∧ (k : Int) < s.blocks) ∨ ((2 : Int) ≤ (k : Int) ∧ ¬ (k : Int) < s.blocks) := by omega
  have hrc : (r = 0) ∨ (¬ r = 0 ∧ ¬ 2 ≤ r) ∨ (¬ r = 0 ∧ 2 ≤ r ∧ r < s.blocks) ∨ (¬ r = 0 ∧ 2 ≤ r ∧ ¬ r < s.blocks) := by omega
  rcases hkc with k1 | k1 | k1
  ·
    have tt : (s.tog k).good = false := by rw [tg]; rw [decide_eq_false k1]; rfl
    rcases hrc with u1 | u1 | u1 | u1
    ·
      have uu : (s.rooted r).good = true := by rw [rg]; rw [decide_eq_true u1]; rfl
      clear tg rg
      subst u1
      rw [tt] at hgt
      rw [uu] at hgu
      have q3 := blk_cell a311 c1
      clear tt uu
      go_wp2_with (first
        | (refine wpList_load_row_g (by simp [Region.wanted, yielded, Act.put]) 38 (.tmp 8) rfl _ rfl _ cT (0, 0) _ b811 Try.underlying38 rfl iT ?_)
        | (go_at_call 49; refine Calls.mono (hgt _) ?_; rintro e X1 ⟨rfl, hx1⟩; have q31 := blk_cell (bBlk hx1 (Array.getElem?_eq_some_iff.1 a311).1 a311) c1; have b91 := bBlk hx1 (Array.getElem?_eq_some_iff.1 b9).1 b9; have hx1z := hx1.size; clear hgt b811 q3)
        | (refine wpList_load_row_g (by simp [Region.wanted, yielded, Act.put]) 38 (.tmp 9) rfl _ rfl _ cU (0, 0) _ b91 Try.underlying38 rfl iU ?_)
        | (go_at_call 49; refine Calls.mono (hgu _) ?_; rintro e X2 ⟨rfl, hx2⟩; have q32 := blk_cell (bBlk hx2 (by have := (Array.getElem?_eq_some_iff.1 a311).1; omega) (bBlk hx1 (Array.getElem?_eq_some_iff.1 a311).1 a311)) c1; clear hgu b91)
        | (go_at_call 16; refine Calls.mono (wakes07_any _) ?_; rintro e X3 ⟨rfl, hx3⟩)
        | fail)
      go_ret
      exact Ret.mk rfl (hB11.trans ((hx1.trans ((hx2.trans (hx3.mono hx2.size)).mono hx1.size)).mono hB11.size))
    ·
      have uu : (s.rooted r).good = false := by rw [rg]; rw [decide_eq_false u1.1, decide_eq_false u1.2]; rfl
      clear tg rg
      obtain ⟨u1a, u1b⟩ := u1
      have z0 : (r == 0) = false := by simpa using u1a
      rw [tt] at hgt
      rw [uu] at hgu
      have q3 := blk_cell a311 c1
      clear tt uu
      go_wp2_with (first
        | (refine wpList_load_row_g (by simp [Region.wanted, yielded, Act.put]) 38 (.tmp 8) rfl _ rfl _ cT (0, 0) _ b811 Try.underlying38 rfl iT ?_)
        | (go_at_call 49; refine Calls.mono (hgt _) ?_; rintro e X1 ⟨rfl, hx1⟩; have q31 := blk_cell (bBlk hx1 (Array.getElem?_eq_some_iff.1 a311).1 a311) c1; have b91 := bBlk hx1 (Array.getElem?_eq_some_iff.1 b9).1 b9; have hx1z := hx1.size; clear hgt b811 q3)
        | (refine wpList_load_row_g (by simp [Region.wanted, yielded, Act.put]) 38 (.tmp 9) rfl _ rfl _ cU (0, 0) _ b91 Try.underlying38 rfl iU ?_)
        | (go_at_call 49; refine Calls.mono (hgu _) ?_; rintro e X2 ⟨rfl, hx2⟩; have q32 := blk_cell (bBlk hx2 (by have := (Array.getElem?_eq_some_iff.1 a311).1; omega) (bBlk hx1 (Array.getElem?_eq_some_iff.1 a311).1 a311)) c1; clear hgu b91)
        | (go_at_call 16; refine Calls.mono (wakes07_any _) ?_; rintro e X3 ⟨rfl, hx3⟩)
        | fail)
      go_ret
      exact Ret.mk rfl (hB11.trans ((hx1.trans ((hx2.trans (hx3.mono hx2.size)).mono hx1.size)).mono hB11.size))
    ·
      have uu : (s.rooted r).good = true := by rw [rg]; rw [decide_eq_false u1.1, decide_eq_true u1.2.1, decide_eq_true u1.2.2]; rfl
      clear tg rg
      obtain ⟨u1a, u1b, u1c⟩ := u1
      have z0 : (r == 0) = false := by simpa using u1a
      have z1 : decide (r < s.blocks) = true := decide_eq_true u1c
      rw [tt] at hgt
      rw [uu] at hgu
      have q3 := blk_cell a311 c1
      clear tt uu
      go_wp2_with (first
        | (refine wpList_load_row_g (by simp [Region.wanted, yielded, Act.put]) 38 (.tmp 8) rfl _ rfl _ cT (0, 0) _ b811 Try.underlying38 rfl iT ?_)
        | (go_at_call 49; refine Calls.mono (hgt _) ?_; rintro e X1 ⟨rfl, hx1⟩; have q31 := blk_cell (bBlk hx1 (Array.getElem?_eq_some_iff.1 a311).1 a311) c1; have b91 := bBlk hx1 (Array.getElem?_eq_some_iff.1 b9).1 b9; have hx1z := hx1.size; clear hgt b811 q3)
        | (refine wpList_load_row_g (by simp [Region.wanted, yielded, Act.put]) 38 (.tmp 9) rfl _ rfl _ cU (0, 0) _ b91 Try.underlying38 rfl iU ?_)
        | (go_at_call 49; refine Calls.mono (hgu _) ?_; rintro e X2 ⟨rfl, hx2⟩; have q32 := blk_cell (bBlk hx2 (by have := (Array.getElem?_eq_some_iff.1 a311).1; omega) (bBlk hx1 (Array.getElem?_eq_some_iff.1 a311).1 a311)) c1; clear hgu b91)
        | (go_at_call 16; refine Calls.mono (wakes07_any _) ?_; rintro e X3 ⟨rfl, hx3⟩)
        | fail)
      go_ret
      exact Ret.mk rfl (hB11.trans ((hx1.trans ((hx2.trans (hx3.mono hx2.size)).mono hx1.size)).mono hB11.size))
    ·
      have uu : (s.rooted r).good = false := by rw [rg]; rw [decide_eq_false u1.1, decide_eq_true u1.2.1, decide_eq_false u1.2.2]; rfl
      clear tg rg
      obtain ⟨u1a, u1b, u1c⟩ := u1
      have z0 : (r == 0) = false := by simpa using u1a
      have z1 : decide (r < s.blocks) = false := decide_eq_false u1c
      rw [tt] at hgt
      rw [uu] at hgu
      have q3 := blk_cell a311 c1
      clear tt uu
      go_wp2_with (first
        | (refine wpList_load_row_g (by simp [Region.wanted, yielded, Act.put]) 38 (.tmp 8) rfl _ rfl _ cT (0, 0) _ b811 Try.underlying38 rfl iT ?_)
        | (go_at_call 49; refine Calls.mono (hgt _) ?_; rintro e X1 ⟨rfl, hx1⟩; have q31 := blk_cell (bBlk hx1 (Array.getElem?_eq_some_iff.1 a311).1 a311) c1; have b91 := bBlk hx1 (Array.getElem?_eq_some_iff.1 b9).1 b9; have hx1z := hx1.size; clear hgt b811 q3)
        | (refine wpList_load_row_g (by simp [Region.wanted, yielded, Act.put]) 38 (.tmp 9) rfl _ rfl _ cU (0, 0) _ b91 Try.underlying38 rfl iU ?_)
        | (go_at_call 49; refine Calls.mono (hgu _) ?_; rintro e X2 ⟨rfl, hx2⟩; have q32 := blk_cell (bBlk hx2 (by have := (Array.getElem?_eq_some_iff.1 a311).1; omega) (bBlk hx1 (Array.getElem?_eq_some_iff.1 a311).1 a311)) c1; clear hgu b91)
        | (go_at_call 16; refine Calls.mono (wakes07_any _) ?_; rintro e X3 ⟨rfl, hx3⟩)
        | fail)
      go_ret
      exact Ret.mk rfl (hB11.trans ((hx1.trans ((hx2.trans (hx3.mono hx2.size)).mono hx1.size)).mono hB11.size))
  ·
    have tt : (s.tog k).good = true := by rw [tg]; rw [decide_eq_true k1.1, decide_eq_true k1.2]; rfl
    rcases hrc with u1 | u1 | u1 | u1
    ·
      have uu : (s.rooted r).good = true := by rw [rg]; rw [decide_eq_true u1]; rfl
      clear tg rg
      obtain ⟨k1a, k1b⟩ := k1
      have y1 : decide ((k : Int) < s.blocks) = true := decide_eq_true k1b
      subst u1
      rw [tt] at hgt
      rw [uu] at hgu
      have q3 := blk_cell a311 c1
      clear tt uu
      go_wp2_with (first
        | (refine wpList_load_row_g (by simp [Region.wanted, yielded, Act.put]) 38 (.tmp 8) rfl _ rfl _ cT (0, 0) _ b811 Try.underlying38 rfl iT ?_)
        | (go_at_call 49; refine Calls.mono (hgt _) ?_; rintro e X1 ⟨rfl, hx1⟩; have q31 := blk_cell (bBlk hx1 (Array.getElem?_eq_some_iff.1 a311).1 a311) c1; have b91 := bBlk hx1 (Array.getElem?_eq_some_iff.1 b9).1 b9; have hx1z := hx1.size; clear hgt b811 q3)
        | (refine wpList_load_row_g (by simp [Region.wanted, yielded, Act.put]) 38 (.tmp 9) rfl _ rfl _ cU (0, 0) _ b91 Try.underlying38 rfl iU ?_)
        | (go_at_call 49; refine Calls.mono (hgu _) ?_; rintro e X2 ⟨rfl, hx2⟩; have q32 := blk_cell (bBlk hx2 (by have := (Array.getElem?_eq_some_iff.1 a311).1; omega) (bBlk hx1 (Array.getElem?_eq_some_iff.1 a311).1 a311)) c1; clear hgu b91)
        | (go_at_call 16; refine Calls.mono (wakes07_any _) ?_; rintro e X3 ⟨rfl, hx3⟩)
        | fail)
      go_ret
      exact Ret.mk rfl (hB11.trans ((hx1.trans ((hx2.trans (hx3.mono hx2.size)).mono hx1.size)).mono hB11.size))
    ·
      have uu : (s.rooted r).good = false := by rw [rg]; rw [decide_eq_false u1.1, decide_eq_false u1.2]; rfl
      clear tg rg
      obtain ⟨k1a, k1b⟩ := k1
      have y1 : decide ((k : Int) < s.blocks) = true := decide_eq_true k1b
      obtain ⟨u1a, u1b⟩ := u1
      have z0 : (r == 0) = false := by simpa using u1a
      rw [tt] at hgt
      rw [uu] at hgu
      have q3 := blk_cell a311 c1
      clear tt uu
      go_wp2_with (first
        | (refine wpList_load_row_g (by simp [Region.wanted, yielded, Act.put]) 38 (.tmp 8) rfl _ rfl _ cT (0, 0) _ b811 Try.underlying38 rfl iT ?_)
        | (go_at_call 49; refine Calls.mono (hgt _) ?_; rintro e X1 ⟨rfl, hx1⟩; have q31 := blk_cell (bBlk hx1 (Array.getElem?_eq_some_iff.1 a311).1 a311) c1; have b91 := bBlk hx1 (Array.getElem?_eq_some_iff.1 b9).1 b9; have hx1z := hx1.size; clear hgt b811 q3)
        | (refine wpList_load_row_g (by simp [Region.wanted, yielded, Act.put]) 38 (.tmp 9) rfl _ rfl _ cU (0, 0) _ b91 Try.underlying38 rfl iU ?_)
        | (go_at_call 49; refine Calls.mono (hgu _) ?_; rintro e X2 ⟨rfl, hx2⟩; have q32 := blk_cell (bBlk hx2 (by have := (Array.getElem?_eq_some_iff.1 a311).1; omega) (bBlk hx1 (Array.getElem?_eq_some_iff.1 a311).1 a311)) c1; clear hgu b91)
        | (go_at_call 16; refine Calls.mono (wakes07_any _) ?_; rintro e X3 ⟨rfl, hx3⟩)
        | fail)
      go_ret
      exact Ret.mk rfl (hB11.trans ((hx1.trans ((hx2.trans (hx3.mono hx2.size)).mono hx1.size)).mono hB11.size))
    ·
      have uu : (s.rooted r).good = true := by rw [rg]; rw [decide_eq_false u1.1, decide_eq_true u1.2.1, decide_eq_true u1.2.2]; rfl
      clear tg rg
      obtain ⟨k1a, k1b⟩ := k1
      have y1 : decide ((k : Int) < s.blocks) = true := decide_eq_true k1b
      obtain ⟨u1a, u1b, u1c⟩ := u1
      have z0 : (r == 0) = false := by simpa using u1a
      have z1 : decide (r < s.blocks) = true := decide_eq_true u1c
      rw [tt] at hgt
      rw [uu] at hgu
      have q3 := blk_cell a311 c1
      clear tt uu
      go_wp2_with (first
        | (refine wpList_load_row_g (by simp [Region.wanted, yielded, Act.put]) 38 (.tmp 8) rfl _ rfl _ cT (0, 0) _ b811 Try.underlying38 rfl iT ?_)
        | (go_at_call 49; refine Calls.mono (hgt _) ?_; rintro e X1 ⟨rfl, hx1⟩; have q31 := blk_cell (bBlk hx1 (Array.getElem?_eq_some_iff.1 a311).1 a311) c1; have b91 := bBlk hx1 (Array.getElem?_eq_some_iff.1 b9).1 b9; have hx1z := hx1.size; clear hgt b811 q3)
        | (refine wpList_load_row_g (by simp [Region.wanted, yielded, Act.put]) 38 (.tmp 9) rfl _ rfl _ cU (0, 0) _ b91 Try.underlying38 rfl iU ?_)
        | (go_at_call 49; refine Calls.mono (hgu _) ?_; rintro e X2 ⟨rfl, hx2⟩; have q32 := blk_cell (bBlk hx2 (by have := (Array.getElem?_eq_some_iff.1 a311).1; omega) (bBlk hx1 (Array.getElem?_eq_some_iff.1 a311).1 a311)) c1; clear hgu b91)
        | (go_at_call 16; refine Calls.mono (wakes07_any _) ?_; rintro e X3 ⟨rfl, hx3⟩)
        | fail)
      go_ret
      exact Ret.mk rfl (hB11.trans ((hx1.trans ((hx2.trans (hx3.mono hx2.size)).mono hx1.size)).mono hB11.size))
    ·
      have uu : (s.rooted r).good = false := by rw [rg]; rw [decide_eq_false u1.1, decide_eq_true u1.2.1, decide_eq_false u1.2.2]; rfl
      clear tg rg
      obtain ⟨k1a, k1b⟩ := k1
      have y1 : decide ((k : Int) < s.blocks) = true := decide_eq_true k1b
      obtain ⟨u1a, u1b, u1c⟩ := u1
      have z0 : (r == 0) = false := by simpa using u1a
      have z1 : decide (r < s.blocks) = false := decide_eq_false u1c
      rw [tt] at hgt
      rw [uu] at hgu
      have q3 := blk_cell a311 c1
      clear tt uu
      go_wp2_with (first
        | (refine wpList_load_row_g (by simp [Region.wanted, yielded, Act.put]) 38 (.tmp 8) rfl _ rfl _ cT (0, 0) _ b811 Try.underlying38 rfl iT ?_)
        | (go_at_call 49; refine Calls.mono (hgt _) ?_; rintro e X1 ⟨rfl, hx1⟩; have q31 := blk_cell (bBlk hx1 (Array.getElem?_eq_some_iff.1 a311).1 a311) c1; have b91 := bBlk hx1 (Array.getElem?_eq_some_iff.1 b9).1 b9; have hx1z := hx1.size; clear hgt b811 q3)
        | (refine wpList_load_row_g (by simp [Region.wanted, yielded, Act.put]) 38 (.tmp 9) rfl _ rfl _ cU (0, 0) _ b91 Try.underlying38 rfl iU ?_)
        | (go_at_call 49; refine Calls.mono (hgu _) ?_; rintro e X2 ⟨rfl, hx2⟩; have q32 := blk_cell (bBlk hx2 (by have := (Array.getElem?_eq_some_iff.1 a311).1; omega) (bBlk hx1 (Array.getElem?_eq_some_iff.1 a311).1 a311)) c1; clear hgu b91)
        | (go_at_call 16; refine Calls.mono (wakes07_any _) ?_; rintro e X3 ⟨rfl, hx3⟩)
        | fail)
      go_ret
      exact Ret.mk rfl (hB11.trans ((hx1.trans ((hx2.trans (hx3.mono hx2.size)).mono hx1.size)).mono hB11.size))
  ·
    have tt : (s.tog k).good = false := by rw [tg]; rw [decide_eq_true k1.1, decide_eq_false k1.2]; rfl
    rcases hrc with u1 | u1 | u1 | u1
    ·
      have uu : (s.rooted r).good = true := by rw [rg]; rw [decide_eq_true u1]; rfl
      clear tg rg
      obtain ⟨k1a, k1b⟩ := k1
      have y1 : decide ((k : Int) < s.blocks) = false := decide_eq_false k1b
      subst u1
      rw [tt] at hgt
      rw [uu] at hgu
      have q3 := blk_cell a311 c1
      clear tt uu
      go_wp2_with (first
        | (refine wpList_load_row_g (by simp [Region.wanted, yielded, Act.put]) 38 (.tmp 8) rfl _ rfl _ cT (0, 0) _ b811 Try.underlying38 rfl iT ?_)
        | (go_at_call 49; refine Calls.mono (hgt _) ?_; rintro e X1 ⟨rfl, hx1⟩; have q31 := blk_cell (bBlk hx1 (Array.getElem?_eq_some_iff.1 a311).1 a311) c1; have b91 := bBlk hx1 (Array.getElem?_eq_some_iff.1 b9).1 b9; have hx1z := hx1.size; clear hgt b811 q3)
        | (refine wpList_load_row_g (by simp [Region.wanted, yielded, Act.put]) 38 (.tmp 9) rfl _ rfl _ cU (0, 0) _ b91 Try.underlying38 rfl iU ?_)
        | (go_at_call 49; refine Calls.mono (hgu _) ?_; rintro e X2 ⟨rfl, hx2⟩; have q32 := blk_cell (bBlk hx2 (by have := (Array.getElem?_eq_some_iff.1 a311).1; omega) (bBlk hx1 (Array.getElem?_eq_some_iff.1 a311).1 a311)) c1; clear hgu b91)
        | (go_at_call 16; refine Calls.mono (wakes07_any _) ?_; rintro e X3 ⟨rfl, hx3⟩)
        | fail)
      go_ret
      exact Ret.mk rfl (hB11.trans ((hx1.trans ((hx2.trans (hx3.mono hx2.size)).mono hx1.size)).mono hB11.size))
    ·
      have uu : (s.rooted r).good = false := by rw [rg]; rw [decide_eq_false u1.1, decide_eq_false u1.2]; rfl
      clear tg rg
      obtain ⟨k1a, k1b⟩ := k1
      have y1 : decide ((k : Int) < s.blocks) = false := decide_eq_false k1b
      obtain ⟨u1a, u1b⟩ := u1
      have z0 : (r == 0) = false := by simpa using u1a
      rw [tt] at hgt
      rw [uu] at hgu
      have q3 := blk_cell a311 c1
      clear tt uu
      go_wp2_with (first
        | (refine wpList_load_row_g (by simp [Region.wanted, yielded, Act.put]) 38 (.tmp 8) rfl _ rfl _ cT (0, 0) _ b811 Try.underlying38 rfl iT ?_)
        | (go_at_call 49; refine Calls.mono (hgt _) ?_; rintro e X1 ⟨rfl, hx1⟩; have q31 := blk_cell (bBlk hx1 (Array.getElem?_eq_some_iff.1 a311).1 a311) c1; have b91 := bBlk hx1 (Array.getElem?_eq_some_iff.1 b9).1 b9; have hx1z := hx1.size; clear hgt b811 q3)
        | (refine wpList_load_row_g (by simp [Region.wanted, yielded, Act.put]) 38 (.tmp 9) rfl _ rfl _ cU (0, 0) _ b91 Try.underlying38 rfl iU ?_)
        | (go_at_call 49; refine Calls.mono (hgu _) ?_; rintro e X2 ⟨rfl, hx2⟩; have q32 := blk_cell (bBlk hx2 (by have := (Array.getElem?_eq_some_iff.1 a311).1; omega) (bBlk hx1 (Array.getElem?_eq_some_iff.1 a311).1 a311)) c1; clear hgu b91)
        | (go_at_call 16; refine Calls.mono (wakes07_any _) ?_; rintro e X3 ⟨rfl, hx3⟩)
        | fail)
      go_ret
      exact Ret.mk rfl (hB11.trans ((hx1.trans ((hx2.trans (hx3.mono hx2.size)).mono hx1.size)).mono hB11.size))
    ·
      have uu : (s.rooted r).good = true := by rw [rg]; rw [decide_eq_false u1.1, decide_eq_true u1.2.1, decide_eq_true u1.2.2]; rfl
      clear tg rg
      obtain ⟨k1a, k1b⟩ := k1
      have y1 : decide ((k : Int) < s.blocks) = false := decide_eq_false k1b
      obtain ⟨u1a, u1b, u1c⟩ := u1
      have z0 : (r == 0) = false := by simpa using u1a
      have z1 : decide (r < s.blocks) = true := decide_eq_true u1c
      rw [tt] at hgt
      rw [uu] at hgu
      have q3 := blk_cell a311 c1
      clear tt uu
      go_wp2_with (first
        | (refine wpList_load_row_g (by simp [Region.wanted, yielded, Act.put]) 38 (.tmp 8) rfl _ rfl _ cT (0, 0) _ b811 Try.underlying38 rfl iT ?_)
        | (go_at_call 49; refine Calls.mono (hgt _) ?_; rintro e X1 ⟨rfl, hx1⟩; have q31 := blk_cell (bBlk hx1 (Array.getElem?_eq_some_iff.1 a311).1 a311) c1; have b91 := bBlk hx1 (Array.getElem?_eq_some_iff.1 b9).1 b9; have hx1z := hx1.size; clear hgt b811 q3)
        | (refine wpList_load_row_g (by simp [Region.wanted, yielded, Act.put]) 38 (.tmp 9) rfl _ rfl _ cU (0, 0) _ b91 Try.underlying38 rfl iU ?_)
        | (go_at_call 49; refine Calls.mono (hgu _) ?_; rintro e X2 ⟨rfl, hx2⟩; have q32 := blk_cell (bBlk hx2 (by have := (Array.getElem?_eq_some_iff.1 a311).1; omega) (bBlk hx1 (Array.getElem?_eq_some_iff.1 a311).1 a311)) c1; clear hgu b91)
        | (go_at_call 16; refine Calls.mono (wakes07_any _) ?_; rintro e X3 ⟨rfl, hx3⟩)
        | fail)
      go_ret
      exact Ret.mk rfl (hB11.trans ((hx1.trans ((hx2.trans (hx3.mono hx2.size)).mono hx1.size)).mono hB11.size))
    ·
      have uu : (s.rooted r).good = false := by rw [rg]; rw [decide_eq_false u1.1, decide_eq_true u1.2.1, decide_eq_false u1.2.2]; rfl
      clear tg rg
      obtain ⟨k1a, k1b⟩ := k1
      have y1 : decide ((k : Int) < s.blocks) = false := decide_eq_false k1b
      obtain ⟨u1a, u1b, u1c⟩ := u1
      have z0 : (r == 0) = false := by simpa using u1a
      have z1 : decide (r < s.blocks) = false := decide_eq_false u1c
      rw [tt] at hgt
      rw [uu] at hgu
      have q3 := blk_cell a311 c1
      clear tt uu
      go_wp2_with (first
        | (refine wpList_load_row_g (by simp [Region.wanted, yielded, Act.put]) 38 (.tmp 8) rfl _ rfl _ cT (0, 0) _ b811 Try.underlying38 rfl iT ?_)
        | (go_at_call 49; refine Calls.mono (hgt _) ?_; rintro e X1 ⟨rfl, hx1⟩; have q31 := blk_cell (bBlk hx1 (Array.getElem?_eq_some_iff.1 a311).1 a311) c1; have b91 := bBlk hx1 (Array.getElem?_eq_some_iff.1 b9).1 b9; have hx1z := hx1.size; clear hgt b811 q3)
        | (refine wpList_load_row_g (by simp [Region.wanted, yielded, Act.put]) 38 (.tmp 9) rfl _ rfl _ cU (0, 0) _ b91 Try.underlying38 rfl iU ?_)
        | (go_at_call 49; refine Calls.mono (hgu _) ?_; rintro e X2 ⟨rfl, hx2⟩; have q32 := blk_cell (bBlk hx2 (by have := (Array.getElem?_eq_some_iff.1 a311).1; omega) (bBlk hx1 (Array.getElem?_eq_some_iff.1 a311).1 a311)) c1; clear hgu b91)
        | (go_at_call 16; refine Calls.mono (wakes07_any _) ?_; rintro e X3 ⟨rfl, hx3⟩)
        | fail)
      go_ret
      exact Ret.mk rfl (hB11.trans ((hx1.trans ((hx2.trans (hx3.mono hx2.size)).mono hx1.size)).mono hB11.size))

set_option maxRecDepth 100000 in
theorem superUsed_walk {H : Type} {enc : TypeId × Value → H} {W : World} {base : Nat} {v0 v1 v2 : Value} {d0 d1 d2 : DataW H} {p0 p1 p2 : List MemPlace}
    (k0 : Value.okWide Try.prog W .any base 38 v0) (h0 : DataW.Trod enc Try.prog W 0 (fun _ => true) true 38 v0 d0 p0)
    (k1 : Value.okWide Try.prog W .any base 5 v1) (h1 : DataW.Trod enc Try.prog W 0 (fun _ => true) true 5 v1 d1 p1)
    (k2 : Value.okWide Try.prog W .any base 3 v2) (h2 : DataW.Trod enc Try.prog W 0 (fun _ => true) true 3 v2 d2 p2)
    : Calls Try.prog 14 #[v0, v1, v2] W fun e W' => e = .returned (.bool true) ∧ Below W.heap.size W W' := by
  obtain ⟨s, rfl, hs⟩ := open_sp k0 h0
  obtain ⟨z, rfl, -, -, hz⟩ := open_int Try.underlying5 k1 h1
  obtain ⟨r, rfl, -, -, hr⟩ := open_int Try.underlying3 k2 h2
  rw [u8_of hz]
  cases hg : s.good
  · exact superUsed_no hs _ r hg W
  · exact superUsed_yes hs _ r (wf64 hr) hg W
end Go.Proofs.Ytnkdbkgihemjnaa
