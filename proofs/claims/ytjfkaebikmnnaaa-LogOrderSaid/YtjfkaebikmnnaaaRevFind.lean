/- The walks over Find and its reference, same and own. -/
import Derived.Test.YtjfkaebikmnnaaaRevEq
import Derived.Lib.MinMax
namespace Go.Proofs.Ytjfkaebikmnnaaa
set_option linter.unusedSimpArgs false
set_option linter.unusedVariables false
open Go.RowKit Go.Sort

def fdx (l : List LE) (z : Int) : Int := if findL l z < l.length then (findL l z : Nat) else -1
theorem fdx_at {l : List LE} {z : Int} {k : Nat} (hk : k < l.length) (h : numAt l k = z) (hn : ∀ j : Nat, j < k → numAt l j ≠ z) : fdx l z = k := by
  have e : findL l z = k := by
    unfold findL
    rw [List.findIdx_eq hk]
    refine ⟨?_, fun j hj => ?_⟩
    · unfold numAt at h; rw [List.getElem?_eq_getElem hk] at h; simpa using h
    · have := hn j hj
      unfold numAt at this
      rw [List.getElem?_eq_getElem (by omega)] at this
      simpa using this
  unfold fdx
  rw [e, if_pos hk]
theorem fdx_none {l : List LE} {z : Int} (hn : ∀ j : Nat, j < l.length → numAt l j ≠ z) : fdx l z = -1 := by
  have e : findL l z = l.length := by
    unfold findL
    rw [List.findIdx_eq_length]
    intro x hx
    obtain ⟨j, hj, rfl⟩ := List.getElem_of_mem hx
    have := hn j hj
    unfold numAt at this
    rw [List.getElem?_eq_getElem hj] at this
    simpa using this
  unfold fdx
  rw [e, if_neg (by omega)]
theorem fdx_rng (l : List LE) (z : Int) : -1 ≤ fdx l z ∧ fdx l z < l.length := by
  unfold fdx
  split <;> omega

set_option maxHeartbeats 4000000 in
set_option maxRecDepth 100000 in
theorem is_any (x : LE) (z : Int) {p : Nat} (w : World) (hp : w.cell? ⟨p, 0, none⟩ = some (.int .i64 z)) :
    Calls Try.prog 38 #[.agg x.cells.toArray, .pointer (some ⟨p, 0, none⟩)] w (Ret w (.bool (x.num == z))) := by
  have hc : x.cells.toArray[0]? = some (.int .i64 x.num) := rfl
  have hpl := World.block_lt_of_cell? _ _ hp
  simp only at hpl
  obtain ⟨num, key⟩ := x
  obtain ⟨cs, hcs⟩ : ∃ cs, (LE.cells ⟨num, key⟩).toArray = cs := ⟨_, rfl⟩
  rw [hcs] at hc ⊢
  clear hcs
  simp only at hc
  go_enter Try.func38, Try.ntmps38
  go_upto_region 1 with (fail)
  obtain ⟨W, hW⟩ : ∃ W, w.alloc (.cells cs 66) = W := ⟨_, rfl⟩
  try rw [hW]
  have a2 : W.heap[w.heap.size]? = some (.cells cs 66) := by rw [← hW]; exact heap_alloc_new _ _
  have hB : Below w.heap.size w W := by rw [← hW]; exact (Below.refl _ _).alloc (Nat.le_refl _) _
  have c2 := blk_cell a2 hc
  have cp := (hB.cell (p := ⟨p, 0, none⟩) hpl).trans hp
  clear hW hp
  go_wp2_with fail
  go_ret
  exact Ret.mk rfl hB

set_option maxHeartbeats 8000000 in
set_option maxRecDepth 100000 in
theorem index_any {A : Option Addr} {n c B : Nat} {l : List LE} (z : Int) {p : Nat} (w : World) (hl : LgAt w B A n c l) (hB : B ≤ w.heap.size) (hp : w.cell? ⟨p, 0, none⟩ = some (.int .i64 z)) (hn : n ≤ 4611686018427387904) :
    Calls Try.prog 37 #[.slice A n c, .func (.func 38) #[] #[.pointer (some ⟨p, 0, none⟩)]] w (Ret w (.int .i64 (fdx l z))) := by
  have hln := hl.len
  have HL := Lib.hid hl
  have HN := Lib.hid hln
  have HP := Lib.hid hp
  have hpl := World.block_lt_of_cell? _ _ hp
  simp only at hpl
  clear hl hln hp
  go_enter Try.func37, Try.ntmps37
  go_wp2_with fail
  go_loopw [8] (fun i wr => ∃ k : Nat, k ≤ n ∧ i = .int .i64 k ∧ Below w.heap.size w wr ∧ (∀ j : Nat, j < k → numAt l j ≠ z)) (fun i _ => n - (intOf i).toNat)
  case atStart => exact ⟨0, by omega, rfl, Below.refl _ _, fun j hj => absurd hj (by omega)⟩
  case round =>
    obtain ⟨k, hk, rfl, hbr, hne⟩ := hrel
    by_cases hlt : k < n
    · obtain ⟨x, hx⟩ : ∃ x, l[k]? = some x := ⟨_, List.getElem?_eq_getElem (by rw [HN.out]; exact hlt)⟩
      have hxo := HL.out.ok x (List.mem_of_getElem? hx)
      obtain ⟨b, o, rfl, hbB, hxr⟩ := HL.out.entry hx
      have hnx := numAt_of hx
      replace hxr := bRange hbr (by omega) hxr
      have hxli := le_leninfo hxo
      have hi1 : (k : Int) < (n : Int) := by omega
      have his := is_any x z wr ((hbr.cell (p := ⟨p, 0, none⟩) hpl).trans HP.out)
      have HB := Lib.hid (And.intro hbr hne)
      have HX := Lib.hid hnx
      clear hbr hne hnx
      obtain ⟨t, ht⟩ : ∃ t, (x.num == z) = t := ⟨_, rfl⟩
      rw [ht] at his
      have HT := Lib.hid ht
      clear ht
      cases t
      · go_wp2_with (first
          | (refine wpList_load_mid rfl 66 (.tmp 14) rfl b (o + k * 33) rfl x.cells _ hxr Try.underlying66 rfl hxli ?_)
          | (go_at_call 38; refine Calls.mono his ?_; rintro e X ⟨rfl, hb1⟩)
          | fail)
        go_roundw
        case rel => exact ⟨k + 1, by omega, by go_num, HB.out.1.trans (hb1.mono HB.out.1.size), fun j hj => by
          rcases Nat.lt_or_ge j k with h | h
          · exact HB.out.2 j h
          · obtain rfl : j = k := by omega
            rw [HX.out]; have := HT.out; simpa using this⟩
        case measure => simp [intOf]; omega
      · go_wp2_with (first
          | (refine wpList_load_mid rfl 66 (.tmp 14) rfl b (o + k * 33) rfl x.cells _ hxr Try.underlying66 rfl hxli ?_)
          | (go_at_call 38; refine Calls.mono his ?_; rintro e X ⟨rfl, hb1⟩)
          | fail)
        go_ret
        exact Ret.mk (vint (fdx_at (by rw [HN.out]; exact hlt) (by rw [HX.out]; have := HT.out; simpa using this) HB.out.2).symm) (HB.out.1.trans (hb1.mono HB.out.1.size))
    · obtain rfl : k = n := by omega
      have hi1 : ¬ (k : Int) < (k : Int) := by omega
      have HB := Lib.hid (And.intro hbr hne)
      clear hbr hne
      go_wp2_with fail
      go_ret
      exact Ret.mk (vint (fdx_none (fun j hj => HB.out.2 j (by rw [HN.out] at hj; exact hj))).symm) HB.out.1

def retF (f : Int) : Value := .tuple #[.int .i64 (max f 0), .bool (decide (0 ≤ f))]
set_option maxHeartbeats 8000000 in
set_option maxRecDepth 100000 in
theorem find_any {next : Int} {A : Option Addr} {n c B : Nat} {l : List LE} (z : Int) (w : World) (hl : LgAt w B A n c l) (hB : B ≤ w.heap.size) (hn : n ≤ 4611686018427387904) :
    Calls Try.prog 28 #[lgv next A n c, .int .i64 z] w (Ret w (retF (fdx l z))) := by
  have hix := fun W hB1 hB2 (p : Nat) hp => index_any (p := p) (c := c) (B := B) (A := A) z W (hl.below (w' := W) hB1) hB2 hp hn
  have hr := fdx_rng l z
  obtain ⟨f, hf⟩ : ∃ f, fdx l z = f := ⟨_, rfl⟩
  rw [hf] at hix hr ⊢
  clear hf hl
  unfold lgv
  go_enter Try.func28, Try.ntmps28
  go_upto_region 1 with (fail)
  obtain ⟨W, hW⟩ : ∃ W, (w.alloc (.cells #[.int .i64 next, .slice A n c] 46)).alloc (.cells #[.int .i64 z] 3) = W := ⟨_, rfl⟩
  try rw [hW]
  have a2 : W.heap[w.heap.size]? = some (.cells #[.int .i64 next, .slice A n c] 46) := by rw [← hW]; exact (Below.heap_alloc _ _ _ (by simp)).trans (heap_alloc_new _ _)
  have a3 : W.heap[w.heap.size + 1]? = some (.cells #[.int .i64 z] 3) := by rw [← hW]; exact heap_alloc_two _ _ _
  have hBW : Below w.heap.size w W := by rw [← hW]; exact ((Below.refl _ _).alloc (Nat.le_refl _) _).alloc (by simp) _
  have c1 : W.cell? ⟨w.heap.size, 1, none⟩ = some (.slice A n c) := blk_cell a2 rfl
  have c3 : W.cell? ⟨w.heap.size + 1, 0, none⟩ = some (.int .i64 z) := blk_cell a3 rfl
  clear hW a2 a3
  replace hix := hix W (hBW.mono hB) (by have := hBW.size; omega) _ c3
  by_cases h0 : 0 ≤ f
  · have e : Hid (retF f = .tuple #[.int .i64 (max f 0), .bool true]) := Lib.hid (by unfold retF; rw [decide_eq_true h0])
    go_wp2_with fail
    refine Calls.mono hix ?_
    rintro e' X ⟨rfl, hb1⟩
    go_wp2_with fail
    go_ret2
    exact Ret.mk e.out.symm (hBW.trans (hb1.mono hBW.size))
  · have e : Hid (retF f = .tuple #[.int .i64 0, .bool (decide (0 ≤ f))]) := Lib.hid (by unfold retF; rw [Int.max_eq_right (by omega)])
    have em : max f 0 = 0 := Int.max_eq_right (by omega)
    have h1 : f < 0 := by omega
    go_wp2_with fail
    refine Calls.mono hix ?_
    rintro e' X ⟨rfl, hb1⟩
    go_wp2_with fail
    go_ret2
    exact Ret.mk e.out.symm (hBW.trans (hb1.mono hBW.size))

set_option maxHeartbeats 8000000 in
set_option maxRecDepth 100000 in
theorem rfind_any {next : Int} {A : Option Addr} {n c B : Nat} {l : List LE} (z : Int) (w : World) (hl : LgAt w B A n c l) (hB : B ≤ w.heap.size) (hn : n ≤ 4611686018427387904) :
    Calls Try.prog 29 #[lgv next A n c, .int .i64 z] w (Ret w (.int .i64 (fdx l z))) := by
  have hln := hl.len
  have HL := Lib.hid hl
  have HN := Lib.hid hln
  clear hl hln
  unfold lgv
  go_enter Try.func29, Try.ntmps29
  go_upto_region 1 with (fail)
  obtain ⟨W, hW⟩ : ∃ W, w.alloc (.cells #[.int .i64 next, .slice A n c] 46) = W := ⟨_, rfl⟩
  try rw [hW]
  have a2 : W.heap[w.heap.size]? = some (.cells #[.int .i64 next, .slice A n c] 46) := by rw [← hW]; exact heap_alloc_new _ _
  have hBW : Below w.heap.size w W := by rw [← hW]; exact (Below.refl _ _).alloc (Nat.le_refl _) _
  have c1 : W.cell? ⟨w.heap.size, 1, none⟩ = some (.slice A n c) := blk_cell a2 rfl
  clear hW a2
  go_wp2_with fail
  go_loop [5] (fun i => ∃ k : Nat, k ≤ n ∧ i = .int .i64 k ∧ (∀ j : Nat, j < k → numAt l j ≠ z)) (fun i => n - (intOf i).toNat)
  case atStart => exact ⟨0, by omega, rfl, fun j hj => absurd hj (by omega)⟩
  case round =>
    obtain ⟨k, hk, rfl, hne⟩ := hrel
    by_cases hlt : k < n
    · obtain ⟨x, hx⟩ : ∃ x, l[k]? = some x := ⟨_, List.getElem?_eq_getElem (by rw [HN.out]; exact hlt)⟩
      have hxo := HL.out.ok x (List.mem_of_getElem? hx)
      obtain ⟨b, o, rfl, hbB, hxr⟩ := HL.out.entry hx
      have hnx := numAt_of hx
      have hx0 : W.cell? ⟨b, o + k * 33, none⟩ = some (.int .i64 x.num) := (hBW.cell (p := ⟨b, o + k * 33, none⟩) (by show b < _; omega)).trans (hxr 0 _ rfl)
      have hi1 : (k : Int) < (n : Int) := by omega
      have HX := Lib.hid hnx
      have HB := Lib.hid (And.intro hne hBW)
      clear hnx hxr hne
      by_cases ht : x.num = z
      · go_wp2_with fail
        go_ret
        exact Ret.mk (vint (fdx_at (by rw [HN.out]; exact hlt) (by rw [HX.out]; assumption) HB.out.1).symm) HB.out.2
      · have ht' : (x.num == z) = false := by simpa using ht
        go_wp2_with fail
        go_round
        case rel => exact ⟨k + 1, by omega, by go_num, fun j hj => by
          rcases Nat.lt_or_ge j k with h | h
          · exact HB.out.1 j h
          · obtain rfl : j = k := by omega
            rw [HX.out]; exact ht⟩
        case measure => simp [intOf]; omega
    · obtain rfl : k = n := by omega
      have hi1 : ¬ (k : Int) < (k : Int) := by omega
      have HB := Lib.hid hne
      clear hne
      go_wp2_with fail
      go_ret
      exact Ret.mk (vint (fdx_none (fun j hj => HB.out j (by rw [HN.out] at hj; exact hj))).symm) hBW

def sameB (na : Int) (la : List LE) (nb : Int) (lb : List LE) : Bool := decide (na = nb ∧ la = lb)
set_option maxHeartbeats 8000000 in
set_option maxRecDepth 100000 in
theorem same_any {na nb : Int} {A A' : Option Addr} {n m c c' B B' : Nat} {la lb : List LE} (w : World) (ha : LgAt w B A n c la) (hb : LgAt w B' A' m c' lb) (hB : B ≤ w.heap.size) (hB' : B' ≤ w.heap.size) (hn : n ≤ 4611686018427387904) :
    Calls Try.prog 30 #[lgv na A n c, lgv nb A' m c'] w (Ret w (.bool (sameB na la nb lb))) := by
  have hln := ha.len
  have hlm := hb.len
  have HA := Lib.hid ha
  have HB := Lib.hid hb
  unfold lgv
  by_cases hnn : na = nb
  · subst hnn
    by_cases hnm : n = m
    · subst hnm
      have HN := Lib.hid (And.intro hln hlm)
      clear hln hlm ha hb
      go_enter Try.func30, Try.ntmps30
      go_upto_region 1 with (fail)
      obtain ⟨W, hW⟩ : ∃ W, (w.alloc (.cells #[.int .i64 na, .slice A n c] 46)).alloc (.cells #[.int .i64 na, .slice A' n c'] 46) = W := ⟨_, rfl⟩
      try rw [hW]
      have a2 : W.heap[w.heap.size]? = some (.cells #[.int .i64 na, .slice A n c] 46) := by rw [← hW]; exact (Below.heap_alloc _ _ _ (by simp)).trans (heap_alloc_new _ _)
      have a3 : W.heap[w.heap.size + 1]? = some (.cells #[.int .i64 na, .slice A' n c'] 46) := by rw [← hW]; exact heap_alloc_two _ _ _
      have hBW : Below w.heap.size w W := by rw [← hW]; exact ((Below.refl _ _).alloc (Nat.le_refl _) _).alloc (by simp) _
      have x0 : W.cell? ⟨w.heap.size, 0, none⟩ = some (.int .i64 na) := blk_cell a2 rfl
      have x1 : W.cell? ⟨w.heap.size, 1, none⟩ = some (.slice A n c) := blk_cell a2 rfl
      have y0 : W.cell? ⟨w.heap.size + 1, 0, none⟩ = some (.int .i64 na) := blk_cell a3 rfl
      have y1 : W.cell? ⟨w.heap.size + 1, 1, none⟩ = some (.slice A' n c') := blk_cell a3 rfl
      have hz : w.heap.size + 1 < W.heap.size := (Array.getElem?_eq_some_iff.1 a3).1
      clear hW a2 a3
      go_wp2_with fail
      have HW := Lib.hid (And.intro hBW (And.intro x1 y1))
      clear hBW x1 y1 x0 y0
      go_loopw [5] (fun i wr => ∃ k : Nat, k ≤ n ∧ i = .int .i64 k ∧ Below W.heap.size W wr ∧ (∀ j : Nat, j < k → la[j]? = lb[j]?)) (fun i _ => n - (intOf i).toNat)
      case atStart => exact ⟨0, by omega, rfl, Below.refl _ _, fun j hj => absurd hj (by omega)⟩
      case round =>
        obtain ⟨k, hk, rfl, hbr, hne⟩ := hrel
        obtain ⟨hBW, x1', y1'⟩ := HW.out
        have x1 := (hbr.cell (p := ⟨w.heap.size, 1, none⟩) (by show w.heap.size < _; omega)).trans x1'
        have y1 := (hbr.cell (p := ⟨w.heap.size + 1, 1, none⟩) hz).trans y1'
        have hBr := hBW.trans (hbr.mono (by omega))
        clear hBW x1' y1'
        by_cases hlt : k < n
        · obtain ⟨x, hx⟩ : ∃ x, la[k]? = some x := ⟨_, List.getElem?_eq_getElem (by rw [HN.out.1]; exact hlt)⟩
          obtain ⟨y, hy⟩ : ∃ y, lb[k]? = some y := ⟨_, List.getElem?_eq_getElem (by rw [HN.out.2]; exact hlt)⟩
          have hxo := HA.out.ok x (List.mem_of_getElem? hx)
          have hyo := HB.out.ok y (List.mem_of_getElem? hy)
          obtain ⟨b, o, rfl, hbB, hxr⟩ := HA.out.entry hx
          obtain ⟨b', o', rfl, hbB', hyr⟩ := HB.out.entry hy
          have hi1 : (k : Int) < (n : Int) := by omega
          have hxi := le_leninfo hxo
          have hyi := le_leninfo hyo
          have hq := fun w => le_eq hxo hyo w
          obtain ⟨q, hqq⟩ : ∃ q, eqE x y = q := ⟨_, rfl⟩
          rw [hqq] at hq
          let S : World → Prop := fun w' => Below w.heap.size w w' ∧ w'.cell? ⟨w.heap.size, 1, none⟩ = some (.slice (some ⟨b, o, none⟩) n c) ∧ w'.cell? ⟨w.heap.size + 1, 1, none⟩ = some (.slice (some ⟨b', o', none⟩) n c')
          have r1 : ∀ w', S w' → w'.rangeAt b (o + k * 33) x.cells := fun w' h => bRange h.1 (by omega) hxr
          have r2 : ∀ w', S w' → w'.rangeAt b' (o' + k * 33) y.cells := fun w' h => bRange h.1 (by omega) hyr
          have hS0 : S wr.drew := ⟨hBr.drew, x1, y1⟩
          have HX := Lib.hid (And.intro hx (And.intro hy (And.intro hne (And.intro hqq (And.intro hbr hBr)))))
          clear hx hy hne hqq hxr hyr hbr hBr
          go_upto_region 6 with (fail)
          clear x1 y1
          refine wp_region_held (S := S) (by kernel_rfl) ?_
          change wpAnyH _ _ _ _ S _ _ _ wr.drew
          refine wpAnyH_take (i := 0) (oi := ?oi_32) (v := ?v_32) ?ho_32 ?h1_32 ?h2_32 ?h3_32 ?hq_32 (Or.inl ⟨?hw_32, ?hy_32⟩) ?hs_32 ?rest_32; (case h2_32 => kernel_rfl); (case h3_32 => kernel_rfl); (case ho_32 => (simp only [List.getElem?_toArray, List.getElem?_cons_zero, List.getElem?_cons_succ]; rfl)); (case h1_32 => kernel_rfl); (case hq_32 => exact fun _ _ _ h => h); (case hw_32 => rfl); (case hy_32 => (intro w' hSw; (try simp only [S] at hSw); go_simp; (try with_reducible rfl))); (case hs_32 => assumption); (try simp only [Act.put, List.setIfInBounds_toArray, List.set_cons_zero, List.set_cons_succ])
          refine wpAnyH_take (i := 1) (oi := ?oi_33) (v := ?v_33) ?ho_33 ?h1_33 ?h2_33 ?h3_33 ?hq_33 (Or.inl ⟨?hw_33, ?hy_33⟩) ?hs_33 ?rest_33; (case h2_33 => kernel_rfl); (case h3_33 => kernel_rfl); (case ho_33 => (simp only [List.getElem?_toArray, List.getElem?_cons_zero, List.getElem?_cons_succ]; rfl)); (case h1_33 => kernel_rfl); (case hq_33 => exact fun _ _ _ h => h); (case hw_33 => rfl); (case hy_33 => (intro w' hSw; (try simp only [S] at hSw); go_simp; (try with_reducible rfl))); (case hs_33 => assumption); (try simp only [Act.put, List.setIfInBounds_toArray, List.set_cons_zero, List.set_cons_succ])
          refine wpAnyH_take (i := 2) (oi := ?oi_34) (v := ?v_34) ?ho_34 ?h1_34 ?h2_34 ?h3_34 ?hq_34 (Or.inl ⟨?hw_34, ?hy_34⟩) ?hs_34 ?rest_34; (case h2_34 => kernel_rfl); (case h3_34 => kernel_rfl); (case ho_34 => (simp only [List.getElem?_toArray, List.getElem?_cons_zero, List.getElem?_cons_succ]; rfl)); (case h1_34 => kernel_rfl); (case hq_34 => exact fun _ _ _ h => h); (case hw_34 => rfl); (case hy_34 => (intro w' hSw; (try simp only [S] at hSw); go_simp; (try with_reducible rfl))); (case hs_34 => assumption); (try simp only [Act.put, List.setIfInBounds_toArray, List.set_cons_zero, List.set_cons_succ])
          refine wpAnyH_take (i := 3) (oi := ?oi_35) (v := ?v_35) ?ho_35 ?h1_35 ?h2_35 ?h3_35 ?hq_35 (Or.inl ⟨?hw_35, ?hy_35⟩) ?hs_35 ?rest_35; (case h2_35 => kernel_rfl); (case h3_35 => kernel_rfl); (case ho_35 => (simp only [List.getElem?_toArray, List.getElem?_cons_zero, List.getElem?_cons_succ]; rfl)); (case h1_35 => kernel_rfl); (case hq_35 => exact fun _ _ _ h => h); (case hw_35 => rfl); (case hy_35 => (intro w' hSw; (try simp only [S] at hSw); go_simp; (try with_reducible rfl))); (case hs_35 => assumption); (try simp only [Act.put, List.setIfInBounds_toArray, List.set_cons_zero, List.set_cons_succ])
          refine wpAnyH_take (i := 4) (oi := ?oi_45) (v := ?v_45) ?ho_45 ?h1_45 ?h2_45 ?h3_45 ?hq_45 (Or.inl ⟨?hw_45, ?hy_45⟩) ?hs_45 ?rest_45; (case h2_45 => kernel_rfl); (case h3_45 => kernel_rfl); (case ho_45 => (simp only [List.getElem?_toArray, List.getElem?_cons_zero, List.getElem?_cons_succ]; rfl)); (case h1_45 => kernel_rfl); (case hq_45 => exact fun _ _ _ h => h); (case hw_45 => rfl); (case hy_45 => (intro w' hSw; refine exec_load_row (x := .tmp 30) ?_ ?_ (r1 w' hSw) Try.underlying66 ?_ hxi <;> rfl)); (case hs_45 => assumption); (try simp only [Act.put, List.setIfInBounds_toArray, List.set_cons_zero, List.set_cons_succ])
          refine wpAnyH_take (i := 5) (oi := ?oi_36) (v := ?v_36) ?ho_36 ?h1_36 ?h2_36 ?h3_36 ?hq_36 (Or.inl ⟨?hw_36, ?hy_36⟩) ?hs_36 ?rest_36; (case h2_36 => kernel_rfl); (case h3_36 => kernel_rfl); (case ho_36 => (simp only [List.getElem?_toArray, List.getElem?_cons_zero, List.getElem?_cons_succ]; rfl)); (case h1_36 => kernel_rfl); (case hq_36 => exact fun _ _ _ h => h); (case hw_36 => rfl); (case hy_36 => (intro w' hSw; (try simp only [S] at hSw); go_simp; (try with_reducible rfl))); (case hs_36 => assumption); (try simp only [Act.put, List.setIfInBounds_toArray, List.set_cons_zero, List.set_cons_succ])
          refine wpAnyH_take (i := 6) (oi := ?oi_37) (v := ?v_37) ?ho_37 ?h1_37 ?h2_37 ?h3_37 ?hq_37 (Or.inl ⟨?hw_37, ?hy_37⟩) ?hs_37 ?rest_37; (case h2_37 => kernel_rfl); (case h3_37 => kernel_rfl); (case ho_37 => (simp only [List.getElem?_toArray, List.getElem?_cons_zero, List.getElem?_cons_succ]; rfl)); (case h1_37 => kernel_rfl); (case hq_37 => exact fun _ _ _ h => h); (case hw_37 => rfl); (case hy_37 => (intro w' hSw; (try simp only [S] at hSw); go_simp; (try with_reducible rfl))); (case hs_37 => assumption); (try simp only [Act.put, List.setIfInBounds_toArray, List.set_cons_zero, List.set_cons_succ])
          refine wpAnyH_take (i := 7) (oi := ?oi_38) (v := ?v_38) ?ho_38 ?h1_38 ?h2_38 ?h3_38 ?hq_38 (Or.inl ⟨?hw_38, ?hy_38⟩) ?hs_38 ?rest_38; (case h2_38 => kernel_rfl); (case h3_38 => kernel_rfl); (case ho_38 => (simp only [List.getElem?_toArray, List.getElem?_cons_zero, List.getElem?_cons_succ]; rfl)); (case h1_38 => kernel_rfl); (case hq_38 => exact fun _ _ _ h => h); (case hw_38 => rfl); (case hy_38 => (intro w' hSw; (try simp only [S] at hSw); go_simp; (try with_reducible rfl))); (case hs_38 => assumption); (try simp only [Act.put, List.setIfInBounds_toArray, List.set_cons_zero, List.set_cons_succ])
          refine wpAnyH_take (i := 8) (oi := ?oi_39) (v := ?v_39) ?ho_39 ?h1_39 ?h2_39 ?h3_39 ?hq_39 (Or.inl ⟨?hw_39, ?hy_39⟩) ?hs_39 ?rest_39; (case h2_39 => kernel_rfl); (case h3_39 => kernel_rfl); (case ho_39 => (simp only [List.getElem?_toArray, List.getElem?_cons_zero, List.getElem?_cons_succ]; rfl)); (case h1_39 => kernel_rfl); (case hq_39 => exact fun _ _ _ h => h); (case hw_39 => rfl); (case hy_39 => (intro w' hSw; (try simp only [S] at hSw); go_simp; (try with_reducible rfl))); (case hs_39 => assumption); (try simp only [Act.put, List.setIfInBounds_toArray, List.set_cons_zero, List.set_cons_succ])
          refine wpAnyH_take (i := 9) (oi := ?oi_46) (v := ?v_46) ?ho_46 ?h1_46 ?h2_46 ?h3_46 ?hq_46 (Or.inl ⟨?hw_46, ?hy_46⟩) ?hs_46 ?rest_46; (case h2_46 => kernel_rfl); (case h3_46 => kernel_rfl); (case ho_46 => (simp only [List.getElem?_toArray, List.getElem?_cons_zero, List.getElem?_cons_succ]; rfl)); (case h1_46 => kernel_rfl); (case hq_46 => exact fun _ _ _ h => h); (case hw_46 => rfl); (case hy_46 => (intro w' hSw; refine exec_load_row (x := .tmp 35) ?_ ?_ (r2 w' hSw) Try.underlying66 ?_ hyi <;> rfl)); (case hs_46 => assumption); (try simp only [Act.put, List.setIfInBounds_toArray, List.set_cons_zero, List.set_cons_succ])
          refine wpAnyH_take (i := 10) (oi := ?oi_40) (v := ?v_40) ?ho_40 ?h1_40 ?h2_40 ?h3_40 ?hq_40 (Or.inl ⟨?hw_40, ?hy_40⟩) ?hs_40 ?rest_40; (case h2_40 => kernel_rfl); (case h3_40 => kernel_rfl); (case ho_40 => (simp only [List.getElem?_toArray, List.getElem?_cons_zero, List.getElem?_cons_succ]; rfl)); (case h1_40 => kernel_rfl); (case hq_40 => exact fun _ _ _ h => h); (case hw_40 => rfl); (case hy_40 => (intro w' hSw; (try simp only [S] at hSw); go_simp; (try with_reducible rfl))); (case hs_40 => assumption); (try simp only [Act.put, List.setIfInBounds_toArray, List.set_cons_zero, List.set_cons_succ])
          refine wpAnyH_done (by kernel_rfl) ?_ _
          clear hS0 r1 r2
          obtain ⟨hx, hy, hne, hqq, hbr, hBr⟩ := HX.out
          cases q
          · clear hbr
            have HR := Lib.hid (And.intro hx (And.intro hy (And.intro hqq hBr)))
            clear hx hy hne hqq hBr HX
            go_wp2_with fail
            go_ret
            obtain ⟨hx, hy, hqq, hBr⟩ := HR.out
            refine Ret.mk (vbool ?_) hBr.drew
            unfold sameB
            rw [decide_eq_false]
            rintro ⟨-, e⟩
            rw [e, hy] at hx
            injection hx with e2
            rw [e2, eqE_iff.2 rfl] at hqq
            cases hqq
          · have exy := eqE_iff.1 hqq
            have HR := Lib.hid (And.intro hx (And.intro hy (And.intro hne (And.intro exy hbr))))
            clear hx hy hne hqq hBr HX exy hbr
            go_wp2_with fail
            go_roundw
            case rel => exact ⟨k + 1, by omega, by go_num, HR.out.2.2.2.2.drew, fun j hj => by
              rcases Nat.lt_or_ge j k with h | h
              · exact HR.out.2.2.1 j h
              · obtain rfl : j = k := by omega
                rw [HR.out.1, HR.out.2.1, HR.out.2.2.2.1]⟩
            case measure => simp [intOf]; omega
        · obtain rfl : k = n := by omega
          have hi1 : ¬ (k : Int) < (k : Int) := by omega
          have HR := Lib.hid (And.intro hne hBr)
          clear hne hBr hbr
          go_wp2_with fail
          go_ret
          refine Ret.mk (vbool ?_) HR.out.2
          unfold sameB
          rw [decide_eq_true]
          refine ⟨rfl, List.ext_getElem? fun j => ?_⟩
          rcases Nat.lt_or_ge j k with h | h
          · exact HR.out.1 j h
          · rw [List.getElem?_eq_none (by rw [HN.out.1]; exact h), List.getElem?_eq_none (by rw [HN.out.2]; exact h)]
    · have e : Hid (sameB na la na lb = false) := Lib.hid (by unfold sameB; rw [decide_eq_false]; rintro ⟨-, rfl⟩; omega)
      have hnm' : (n : Int) ≠ (m : Int) := by omega
      clear hln hlm ha hb
      go_enter Try.func30, Try.ntmps30
      go_wp2_with fail
      go_ret
      exact Ret.mk (vbool e.out.symm) (by repeat (first | (with_reducible exact Below.refl _ _) | (with_reducible refine bDrewN ?_ _) | (with_reducible refine Below.drew ?_) | (with_reducible refine Below.alloc ?_ ?_ _) | (with_reducible refine Below.setCell ?_ ?_ _) | (with_reducible assumption) | go_size))
  · have e : Hid (sameB na la nb lb = false) := Lib.hid (by unfold sameB; rw [decide_eq_false]; rintro ⟨h, -⟩; exact hnn h)
    clear hln hlm ha hb
    go_enter Try.func30, Try.ntmps30
    go_wp2_with fail
    go_ret
    exact Ret.mk (vbool e.out.symm) (by repeat (first | (with_reducible exact Below.refl _ _) | (with_reducible refine bDrewN ?_ _) | (with_reducible refine Below.drew ?_) | (with_reducible refine Below.alloc ?_ ?_ _) | (with_reducible refine Below.setCell ?_ ?_ _) | (with_reducible assumption) | go_size))

/-! ### a log's copy -/
attribute [-go_sem] Builtin.append_
theorem elemLE : Elem Try.prog 66 33 40 := elem_of (z := .agg le0.cells.toArray) (by kernel_rfl) (by rw [show (Value.agg le0.cells.toArray).cells = le0.cells.toArray from rfl, List.size_toArray, le0_ok.len]) (by omega)
theorem one_les (l : List LE) : ∀ u ∈ les l, u.oneCell' = true := fun u hu => by
  obtain ⟨x, _, hx⟩ := List.mem_flatMap.1 hu
  exact one_le x u hx
theorem built_lg (next : Int) (A : Option Addr) (n c : Nat) : Try.prog.built 46 [(0, .int .i64 next), (1, .slice A n c)] = some #[.int .i64 next, .slice A n c] := by kernel_rfl
theorem lg_info (a b : Value) : (Try.prog.info? 46).map (·.size) = some (#[a, b] : Array Value).size := by kernel_rfl
set_option maxHeartbeats 8000000 in
set_option maxRecDepth 100000 in
theorem own_any {next : Int} {A : Option Addr} {n c B : Nat} {l : List LE} (w : World) (hl : LgAt w B A n c l) (hB : B ≤ w.heap.size) (hn : n ≤ 1000000) :
    Calls Try.prog 19 #[lgv next A n c] w fun e w' => ∃ A' c', e = .returned (lgv next A' n c') ∧ LgAt w' w'.heap.size A' n c' l ∧ Below w.heap.size w w' := by
  unfold lgv
  go_enter Try.func19, Try.ntmps19
  go_upto_region 1 with (fail)
  obtain ⟨W, hW⟩ : ∃ W, (w.alloc (.cells #[.int .i64 next, .slice A n c] 46)).alloc (.cells #[.int .i64 0, .slice none 0 0] 46) = W := ⟨_, rfl⟩
  try rw [hW]
  have a2 : W.heap[w.heap.size]? = some (.cells #[.int .i64 next, .slice A n c] 46) := by rw [← hW]; exact (Below.heap_alloc _ _ _ (by simp)).trans (heap_alloc_new _ _)
  have a3 : W.heap[w.heap.size + 1]? = some (.cells #[.int .i64 0, .slice none 0 0] 46) := by rw [← hW]; exact heap_alloc_two _ _ _
  have hBW : Below w.heap.size w W := by rw [← hW]; exact ((Below.refl _ _).alloc (Nat.le_refl _) _).alloc (by simp) _
  have hz : w.heap.size + 1 < W.heap.size := (Array.getElem?_eq_some_iff.1 a3).1
  clear hW
  obtain ⟨V, hV⟩ : ∃ V, (W.alloc (.cells #[] 66)).drew = V := ⟨_, rfl⟩
  have bWV : Below W.heap.size W V := by rw [← hV]; exact ((Below.refl _ _).alloc (Nat.le_refl _) _).drew
  have own0 : V.ownsRow W.heap.size 66 33 (.slice (some ⟨W.heap.size, 0, none⟩) 0 0) 0 [] := by rw [← hV]; exact own_none' W _ _ _ (Nat.le_refl _)
  have hBV := hBW.trans (bWV.mono (by omega))
  obtain ⟨A5, c5, w1, hrun, row1, hg1, -⟩ := run_app (P := Try.prog) V (ty := 44) (t := 44) Try.underlying44 elemLE own0 (hl.sl.below (hBV.mono hB)) (c := c) (one_les l) (by simp only [maxLen]; omega) (by omega) bWV.size
  have b1 : Below W.heap.size W w1 := bWV.trans ((Below.refl _ V).grown hg1 bWV.size (own_ge own0))
  simp only [Nat.zero_add, List.nil_append] at hrun row1
  have q2 := bBlk b1 (by omega) a2
  have q3 := bBlk b1 (by omega) a3
  have hB1 := hBW.trans (b1.mono (by omega))
  have hrow := row1
  obtain ⟨A6, c6, e, h6, -⟩ := own_form row1
  simp only [Value.slice.injEq] at e
  obtain ⟨rfl, -, rfl⟩ := e
  have hsl := Sl.of_own row1
  have hfin : LgAt (w1.setRow (w.heap.size + 1) #[.int .i64 next, .slice A5 n c5]) (w1.setRow (w.heap.size + 1) #[.int .i64 next, .slice A5 n c5]).heap.size A5 n c5 l := by
    refine ⟨hl.ok, hl.len, ⟨hsl.len, fun h => ?_⟩, h6⟩
    rcases row1.2 with ⟨e, _⟩ | ⟨g, cap, cur, e, hbg, hg, _⟩
    · simp only [Value.slice.injEq] at e; omega
    · obtain ⟨b, o, hA, hb, hr⟩ := hsl.at_ h
      simp only [Value.slice.injEq] at e
      rw [e.1] at hA
      simp only [Option.some.injEq, Addr.mk.injEq, and_true] at hA
      obtain ⟨rfl, rfl⟩ := hA
      refine ⟨g, 0, e.1, by rw [setRow_size]; exact hb, fun j v hj => ?_⟩
      exact (World.cell?_of_block (a := ⟨g, 0 + j, none⟩) (setRow_other w1 (w.heap.size + 1) g _ (by omega))).trans (hr j v hj)
  have hBf : Below w.heap.size w (w1.setRow (w.heap.size + 1) #[.int .i64 next, .slice A5 n c5]) := bSetRow hB1 (by omega) _
  have u3 : (w1.setRow (w.heap.size + 1) #[.int .i64 next, .slice A5 n c5]).heap[w.heap.size + 1]? = some (.cells #[.int .i64 next, .slice A5 n c5] 46) := setRow_heap _ _ _ _ _ _ q3
  have HF := Lib.hid (And.intro hfin (And.intro hBf u3))
  have HG := Lib.hid (And.intro b1 bWV)
  clear hfin hBf u3 hrow hsl row1 hg1 b1 own0 hB1 q2 hl
  have c0 : W.cell? ⟨w.heap.size, 0, none⟩ = some (.int .i64 next) := blk_cell a2 rfl
  have c1 : W.cell? ⟨w.heap.size, 1, none⟩ = some (.slice A n c) := blk_cell a2 rfl
  clear a2 a3
  obtain ⟨b1, bWV⟩ := HG.out
  let S : World → Prop := fun w' => w'.cell? ⟨w.heap.size, 0, none⟩ = some (.int .i64 next) ∧ w'.cell? ⟨w.heap.size, 1, none⟩ = some (.slice A n c)
  have hSS : ∀ w', Below W.heap.size W w' → S w' := fun w' h => ⟨(h.cell (p := ⟨w.heap.size, 0, none⟩) (by show w.heap.size < _; omega)).trans c0, (h.cell (p := ⟨w.heap.size, 1, none⟩) (by show w.heap.size < _; omega)).trans c1⟩
  have hS0 : S W.drew := hSS _ (Below.refl _ _).drew
  have hS1 := hSS _ bWV
  have hS2 := hSS _ b1
  have hS3 : S (w1.setRow (w.heap.size + 1) #[.int .i64 next, .slice A5 n c5]) := ⟨(World.cell?_of_block (a := ⟨w.heap.size, 0, none⟩) (setRow_other w1 (w.heap.size + 1) w.heap.size _ (by omega))).trans hS2.1, (World.cell?_of_block (a := ⟨w.heap.size, 1, none⟩) (setRow_other w1 (w.heap.size + 1) w.heap.size _ (by omega))).trans hS2.2⟩
  clear c0 c1 hSS b1 bWV
  refine wp_region_held (S := S) (by kernel_rfl) ?_
  change wpAnyH _ _ _ _ S _ _ _ W.drew
  refine wpAnyH_take (i := 0) (oi := ?oi_41) (v := ?v_41) ?ho_41 ?h1_41 ?h2_41 ?h3_41 ?hq_41 (Or.inl ⟨?hw_41, ?hy_41⟩) ?hs_41 ?rest_41; (case h2_41 => kernel_rfl); (case h3_41 => kernel_rfl); (case ho_41 => (simp only [List.getElem?_toArray, List.getElem?_cons_zero, List.getElem?_cons_succ]; rfl)); (case h1_41 => kernel_rfl); (case hq_41 => exact fun _ _ _ h => h); (case hw_41 => rfl); (case hy_41 => (intro w' hSw; (try simp only [S] at hSw); go_simp; (try with_reducible rfl))); (case hs_41 => assumption); (try simp only [Act.put, List.setIfInBounds_toArray, List.set_cons_zero, List.set_cons_succ])
  refine wpAnyH_take (i := 1) (oi := ?oi_42) (v := ?v_42) ?ho_42 ?h1_42 ?h2_42 ?h3_42 ?hq_42 (Or.inl ⟨?hw_42, ?hy_42⟩) ?hs_42 ?rest_42; (case h2_42 => kernel_rfl); (case h3_42 => kernel_rfl); (case ho_42 => (simp only [List.getElem?_toArray, List.getElem?_cons_zero, List.getElem?_cons_succ]; rfl)); (case h1_42 => kernel_rfl); (case hq_42 => exact fun _ _ _ h => h); (case hw_42 => rfl); (case hy_42 => (intro w' hSw; (try simp only [S] at hSw); go_simp; (try with_reducible rfl))); (case hs_42 => assumption); (try simp only [Act.put, List.setIfInBounds_toArray, List.set_cons_zero, List.set_cons_succ])
  refine wpAnyH_take (i := 3) (oi := ?oi_43) (v := ?v_43) ?ho_43 ?h1_43 ?h2_43 ?h3_43 ?hq_43 (Or.inl ⟨?hw_43, ?hy_43⟩) ?hs_43 ?rest_43; (case h2_43 => kernel_rfl); (case h3_43 => kernel_rfl); (case ho_43 => (simp only [List.getElem?_toArray, List.getElem?_cons_zero, List.getElem?_cons_succ]; rfl)); (case h1_43 => kernel_rfl); (case hq_43 => exact fun _ _ _ h => h); (case hw_43 => rfl); (case hy_43 => (intro w' hSw; (try simp only [S] at hSw); go_simp; (try with_reducible rfl))); (case hs_43 => assumption); (try simp only [Act.put, List.setIfInBounds_toArray, List.set_cons_zero, List.set_cons_succ])
  refine wpAnyH_take (i := 4) (oi := ?oi_44) (v := ?v_44) ?ho_44 ?h1_44 ?h2_44 ?h3_44 ?hq_44 (Or.inl ⟨?hw_44, ?hy_44⟩) ?hs_44 ?rest_44; (case h2_44 => kernel_rfl); (case h3_44 => kernel_rfl); (case ho_44 => (simp only [List.getElem?_toArray, List.getElem?_cons_zero, List.getElem?_cons_succ]; rfl)); (case h1_44 => kernel_rfl); (case hq_44 => exact fun _ _ _ h => h); (case hw_44 => rfl); (case hy_44 => (intro w' hSw; (try simp only [S] at hSw); go_simp; (try with_reducible rfl))); (case hs_44 => assumption); (try simp only [Act.put, List.setIfInBounds_toArray, List.set_cons_zero, List.set_cons_succ])
  refine wpAnyH_ready (rs := [2]) (by kernel_rfl) (by simp) (AllReadyH.cons (o := ?oo2_48) ?hoo2_48 (fun K hK => ?steponly48) AllReadyH.nil); (case hoo2_48 => (simp only [List.getElem?_toArray, List.getElem?_cons_zero, List.getElem?_cons_succ]; rfl))
  go_simp
  (try rw [hV])
  refine hK.out _ _ hS1 (fun _ => ?_)
  clear hK K hV
  (try simp only [Act.put, List.setIfInBounds_toArray, List.set_cons_zero, List.set_cons_succ])
  refine wpAnyH_ready (rs := [5]) (by kernel_rfl) (by simp) (AllReadyH.cons (o := ?oo5_49) ?hoo5_49 (fun K hK => ?steponly49) AllReadyH.nil); (case hoo5_49 => (simp only [List.getElem?_toArray, List.getElem?_cons_zero, List.getElem?_cons_succ]; rfl))
  go_simp
  refine hK.out _ _ hS2 (fun _ => ?_)
  clear hK K
  (try simp only [Act.put, List.setIfInBounds_toArray, List.set_cons_zero, List.set_cons_succ])
  refine wpAnyH_take (i := 6) (oi := ?oi_47) (v := ?v_47) ?ho_47 ?h1_47 ?h2_47 ?h3_47 ?hq_47 (Or.inl ⟨?hw_47, ?hy_47⟩) ?hs_47 ?rest_47; (case h2_47 => kernel_rfl); (case h3_47 => kernel_rfl); (case ho_47 => (simp only [List.getElem?_toArray, List.getElem?_cons_zero, List.getElem?_cons_succ]; rfl)); (case h1_47 => kernel_rfl); (case hq_47 => exact fun _ _ _ h => h); (case hw_47 => rfl); (case hy_47 => (intro w' hSw; refine exec_built (t := 46) (cs := #[.int .i64 next, .slice A5 n c5]) (parts := #[(0, .tmp 4), (1, .tmp 8)]) ?_ ?_ w'; exact rfl; simp only [List.map_toArray, List.map_cons, List.map_nil]; exact built_lg next A5 n c5)); (case hs_47 => assumption); (try simp only [Act.put, List.setIfInBounds_toArray, List.set_cons_zero, List.set_cons_succ])
  refine wpAnyH_ready (rs := [7]) (by kernel_rfl) (by simp) (AllReadyH.cons (o := ?oo7_50) ?hoo7_50 (fun K hK => ?steponly50) AllReadyH.nil); (case hoo7_50 => (simp only [List.getElem?_toArray, List.getElem?_cons_zero, List.getElem?_cons_succ]; rfl))
  refine step_row rfl 46 (.tmp 2) (.tmp 9) rfl (w.heap.size + 1) #[.int .i64 next, .slice A5 n c5] rfl rfl _ #[.int .i64 0, .slice none 0 0] q3 (lg_info _ _) rfl (by simp [Value.oneCell']) ?_
  refine hK.out _ _ hS3 (fun _ => ?_)
  clear hK K
  (try simp only [Act.put, List.setIfInBounds_toArray, List.set_cons_zero, List.set_cons_succ])
  refine wpAnyH_done (by kernel_rfl) ?_ _
  obtain ⟨hfin, hBf, u3⟩ := HF.out
  have hld := run_loadVar_row (P := Try.prog) _ _ _ 46 _ _ _ u3 Try.underlying46 rfl (lg_info _ _)
  generalize w1.setRow (w.heap.size + 1) #[.int .i64 next, .slice A5 n c5] = X at *
  have HX := Lib.hid (And.intro hfin hBf)
  clear hfin hBf u3 hS0 hS1 hS2 hS3 q3 hrun
  go_wp2_with fail
  refine bodyPost_ret (by simp [results, Try.results19, Act.put, asAddr, Result.andThen, hld]; try rfl) rfl ?_
  exact ⟨_, _, rfl, HX.out.1, HX.out.2⟩
end Go.Proofs.Ytjfkaebikmnnaaa
