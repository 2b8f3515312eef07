/- The statements of layer 1: DiskSafe. -/
import Derived.Test.YthbaogjamenndaaDskLaws3
namespace Go.Proofs.Ythbaogjamenndaa
set_option linter.unusedSimpArgs false
set_option linter.unusedVariables false
open Go.RowKit Go.ChangeShapes Go.WideShapes Go.Sort

/-! ### plain -/
def FiveL (wl : List Blk) (f : Nat → Blk) : Prop := wl.length = 5 ∧ (∀ y ∈ wl, y.length = 128) ∧ ∀ k, k < 5 → wl[k]? = some (f k)
theorem five_set {wl : List Blk} {f g : Nat → Blk} (h : FiveL wl f) {m : Nat} (hm : m < 5) {b : Blk} (hb : b.length = 128) (hg : ∀ j, g j = if j = m then b else f j) : FiveL (wl.set m b) g := by
  refine ⟨by rw [List.length_set]; exact h.1, fun y hy => ?_, fun j hj => ?_⟩
  · rcases List.mem_or_eq_of_mem_set hy with h1 | rfl
    · exact h.2.1 y h1
    · exact hb
  · rw [hg, List.getElem?_set]
    by_cases e : m = j
    · subst e
      rw [if_pos rfl, if_pos (by rw [h.1]; exact hm), if_pos rfl]
    · rw [if_neg e, if_neg (fun hh => e hh.symm)]; exact h.2.2 j hj
theorem five_same {wl : List Blk} {f g : Nat → Blk} (h : FiveL wl f) (hg : ∀ j, g j = f j) : FiveL wl g := ⟨h.1, h.2.1, fun j hj => by rw [hg]; exact h.2.2 j hj⟩
def Free (s : DS) : Prop := s.fuse = -1 ∧ s.down = false
theorem free_write {s : DS} (h : Free s) {i : Int} (hin : s.inB i = true) (b : Blk) : s.writeE i = 0 ∧ s.write i b = { s.gone with lo := s.lo ++ [(i.toNat, b)] } ∧ Free (s.write i b) := by
  have hst : s.stops = false := by unfold DS.stops; rw [h.1, h.2]; rfl
  have e : s.write i b = { s.gone with lo := s.lo ++ [(i.toNat, b)] } := by unfold DS.write; simp [hin, hst]
  refine ⟨by unfold DS.writeE DS.passE; simp [hin, hst], e, ?_⟩
  rw [e]
  exact ⟨by show (if 0 < s.fuse then s.fuse - 1 else s.fuse) = -1; rw [h.1]; rfl, rfl⟩
theorem free_sync {s : DS} (h : Free s) : s.passE = 0 ∧ s.sync = { s.gone with bl := putAll s.bl s.lo, lo := [] } ∧ Free s.sync := by
  have hst : s.stops = false := by unfold DS.stops; rw [h.1, h.2]; rfl
  have e : s.sync = { s.gone with bl := putAll s.bl s.lo, lo := [] } := by unfold DS.sync; simp [hst]
  refine ⟨by unfold DS.passE; simp [hst], e, ?_⟩
  rw [e]
  exact ⟨by show (if 0 < s.fuse then s.fuse - 1 else s.fuse) = -1; rw [h.1]; rfl, rfl⟩
/-- what a crash would leave -/
def cr (s : DS) (keep : List UInt8) (torn : Int) (k : Nat) : Blk := (crashTo keep torn s.lo s.bl s.lo.length)[k]?.getD zblk
theorem cr_len {s : DS} (h : s.Ok) (keep : List UInt8) (torn : Int) (k : Nat) : (cr s keep torn k).length = 128 := by
  unfold cr
  rcases hg : (crashTo keep torn s.lo s.bl s.lo.length)[k]? with _ | c
  · exact zblk_len
  · exact crashTo_ok h.bl (fun x hx => (h.lo x hx).2) _ c (List.mem_of_getElem? hg)
theorem crashTo_prefix (keep : List UInt8) (torn : Int) (lo xs : List (Nat × Blk)) (bl : List Blk) : ∀ n, n ≤ lo.length → crashTo keep torn (lo ++ xs) bl n = crashTo keep torn lo bl n
  | 0, _ => rfl
  | n + 1, h => by
    unfold crashTo
    rw [crashTo_prefix keep torn lo xs bl n (by omega), List.getElem?_append_left (by omega)]
theorem cr_write {s : DS} (h : Free s) {m : Nat} (hin : s.inB (m : Int) = true) (b : Blk) (keep : List UInt8) (torn : Int) (j : Nat) :
    cr (s.write (m : Int) b) keep torn j = if j = m then (if keeps keep s.lo.length then halfOf (sizeOf' torn s.lo.length) b (cr s keep torn m) else cr s keep torn m) else cr s keep torn j := by
  have hm := (DS.inB_iff.1 hin).2
  rw [(free_write h hin b).2.1]
  unfold cr
  show (crashTo keep torn (s.lo ++ [((m : Int).toNat, b)]) s.bl (s.lo ++ [((m : Int).toNat, b)]).length)[j]?.getD zblk = _
  rw [List.length_append, List.length_singleton, Int.toNat_natCast]
  have e : crashTo keep torn (s.lo ++ [(m, b)]) s.bl (s.lo.length + 1) = crash1 keep torn s.lo.length (crashTo keep torn s.lo s.bl s.lo.length) (m, b) := by
    show (match (s.lo ++ [(m, b)])[s.lo.length]? with | some x => crash1 keep torn s.lo.length (crashTo keep torn (s.lo ++ [(m, b)]) s.bl s.lo.length) x | none => _) = _
    rw [List.getElem?_append_right (Nat.le_refl _), Nat.sub_self, crashTo_prefix keep torn s.lo _ s.bl _ (Nat.le_refl _)]
    rfl
  rw [e]
  have hl := crashTo_len keep torn s.lo s.bl s.lo.length
  generalize crashTo keep torn s.lo s.bl s.lo.length = bl at *
  unfold crash1
  by_cases hk : keeps keep s.lo.length = true
  · rw [if_pos hk, if_pos hk, List.getElem?_set]
    by_cases ej : m = j
    · subst ej
      rw [if_pos rfl, if_pos (by show m < bl.length; omega), if_pos rfl]; rfl
    · rw [if_neg ej, if_neg (fun hh => ej hh.symm)]
  · rw [if_neg hk, if_neg hk]
    by_cases ej : j = m
    · subst ej; rw [if_pos rfl]
    · rw [if_neg ej]
theorem cr_none {s : DS} (h : s.lo = []) (keep : List UInt8) (torn : Int) (k : Nat) : cr s keep torn k = rd s k := by
  unfold cr rd; rw [h]; rfl
theorem halfOf_none' (b a : Blk) : halfOf 0 b a = a := by simp [halfOf]
theorem set_same {α : Type} {l : List α} {m : Nat} {x : α} (h : l[m]? = some x) : l.set m x = l := by
  apply List.ext_getElem?
  intro i
  rw [List.getElem?_set]
  by_cases e : m = i
  · subst e; rw [if_pos rfl, if_pos (List.getElem?_eq_some_iff.1 h).1, h]
  · rw [if_neg e]
theorem half_set {v : UInt8} {a : Blk} {j : Nat} (ha : a.length = 128) (hj : j < 128) : (halfOf j (fillB v) a).set j v = halfOf (j + 1) (fillB v) a := by
  apply List.ext_getElem?
  intro i
  unfold halfOf fillB
  rw [List.getElem?_set]
  simp only [List.getElem?_append, List.length_append, List.length_take, List.length_replicate, List.getElem?_take, List.getElem?_replicate, List.length_drop, List.getElem?_drop, ha]
  rcases Nat.lt_trichotomy i j with h | h | h
  · rw [if_neg (by omega), if_pos (by omega), if_pos (by omega), if_pos (by omega), if_pos (by omega), if_pos (by omega)]
  · subst h
    rw [if_pos rfl, if_pos (by omega), if_pos (by omega), if_pos (by omega), if_pos (by omega)]
  · rw [if_neg (by omega), if_neg (by omega), if_neg (by omega)]
    congr 1; omega
theorem bcs_set1 : ∀ {wl : List Blk} {m q : Nat} {v : UInt8} {X : Blk}, (∀ y ∈ wl, y.length = 128) → wl[m]? = some X → q < 128 → (bcs wl).set (m * 128 + q) (.int .u8 (v.toNat : Int)) = bcs (wl.set m (X.set q v))
  | [], m, q, v, X, _, h, _ => by simp at h
  | y :: l, 0, q, v, X, hw, h, hq => by
    obtain rfl : y = X := by simpa using h
    have hy := hw y (by simp)
    unfold bcs
    rw [List.flatMap_cons, List.set_cons_zero, List.flatMap_cons, Nat.zero_mul, Nat.zero_add, List.set_append, if_pos (by rw [bvs_len, hy]; exact hq)]
    congr 1
    unfold bvs
    rw [List.map_set]; rfl
  | y :: l, m + 1, q, v, X, hw, h, hq => by
    have hy := hw y (by simp)
    have ih := bcs_set1 (wl := l) (m := m) (q := q) (v := v) (X := X) (fun z hz => hw z (by simp [hz])) (by simpa using h) hq
    unfold bcs at ih ⊢
    rw [List.flatMap_cons, List.set_cons_succ, List.flatMap_cons, List.set_append, if_neg (by rw [bvs_len, hy]; omega), bvs_len, hy, show (m + 1) * 128 + q - 128 = m * 128 + q from by omega, ih]
theorem fiveZ : ZeroIs Try.prog 71 (bcs (List.replicate 5 zblk)).toArray := by
  unfold ZeroIs
  rw [show (bcs (List.replicate 5 zblk)).toArray.size = 640 from by rw [List.size_toArray, bcs_rep, List.length_replicate]]
  kernel_rfl
theorem own_none' (w : World) (base : Nat) (e : TypeId) (size : Nat) (hb : base ≤ w.heap.size) : (w.alloc (.cells #[] e)).ownsRow base e size (.slice (some ⟨w.heap.size, 0, none⟩) 0 0) 0 [] :=
  ⟨by simp, .inr ⟨w.heap.size, 0, #[], rfl, hb, heap_alloc_new _ _, Nat.le_refl _, by simp [maxLen], by simp, by simp⟩⟩
theorem elemU8'' : Elem Try.prog 5 1 1 := elem_of (z := .int .u8 0) (by kernel_rfl) rfl (by omega)

attribute [-go_sem] Builtin.append_
set_option maxHeartbeats 16000000 in
set_option maxRecDepth 100000 in
theorem diskSafe_core {w : World} {A A' A3 : Option Addr} {c c' c3 : Nat} {l l' : List Stp} (keep : List UInt8) (hs : Sl w w.heap.size 4 A l.length (encS l)) (hc : l.length ≤ c) (hm : c ≤ maxLen) (hok : ∀ x ∈ l, x.Ok w)
    (hs' : Sl w w.heap.size 4 A' l'.length (encS l')) (hc' : l'.length ≤ c') (hm' : c' ≤ maxLen) (hok' : ∀ x ∈ l', x.Ok w) (hK : Sl w w.heap.size 1 A3 keep.length (bvs keep)) (hKc : keep.length ≤ c3) (hKm : c3 ≤ maxLen) :
    Calls Try.prog 8 #[.slice A l.length c, .slice A' l'.length c', .slice A3 keep.length c3] w (Ret w (.bool true)) := by
  have hn := fun W => new_any 16 (by omega) (by omega) W
  have hm2 : l.length ≤ 9223372036854775807 := by simp only [maxLen] at hm; omega
  have hm3 : l'.length ≤ 9223372036854775807 := by simp only [maxLen] at hm'; omega
  have hm4 : keep.length ≤ 9223372036854775807 := by simp only [maxLen] at hKm; omega
  go_enter Try.func8, Try.ntmps8
  go_wp2_with fail
  refine (hn _).mono ?_
  rintro e W0 ⟨rfl, hk0, hb0⟩
  have hfair := fair_any (w := W0) (hs.next hb0) hc hm
  have hfair' := fair_any (w := W0) (hs'.next hb0) hc' hm'
  obtain ⟨t, ht⟩ : ∃ t, fairL l = t := ⟨_, rfl⟩
  obtain ⟨t', ht'⟩ : ∃ t', fairL l' = t' := ⟨_, rfl⟩
  rw [ht] at hfair
  rw [ht'] at hfair'
  unfold dp
  clear hn
  go_wp2_with fail
  refine hfair.mono ?_
  rintro e _ ⟨rfl, rfl⟩
  clear hfair
  cases t
  · go_wp2_with fail
    refine (wakes01_any _).mono ?_
    rintro e W2 ⟨rfl, hb2⟩
    go_wp2
    go_ret
    exact Ret.mk rfl (hb0.trans (hb2.mono hb0.size))
  go_wp2_with fail
  refine hfair'.mono ?_
  rintro e _ ⟨rfl, rfl⟩
  clear hfair'
  cases t'
  · go_wp2_with fail
    refine (wakes01_any _).mono ?_
    rintro e W2 ⟨rfl, hb2⟩
    go_wp2
    go_ret
    exact Ret.mk rfl (hb0.trans (hb2.mono hb0.size))
  by_cases hk3 : 300 < keep.length
  · have g3 : (300 : Int) < keep.length := by omega
    go_wp2_with fail
    refine (wakes01_any _).mono ?_
    rintro e W2 ⟨rfl, hb2⟩
    go_wp2
    go_ret
    exact Ret.mk rfl (hb0.trans (hb2.mono hb0.size))
  have g3 : ¬ (300 : Int) < keep.length := by omega
  have hl2 : l.length ≤ 200 := by unfold fairL at ht; simp at ht; exact ht.2
  have hl3 : l'.length ≤ 200 := by unfold fairL at ht'; simp at ht'; exact ht'.2
  clear ht ht'
  go_upto_region 5 with (first | (refine wpList_new rfl fiveZ rfl ?_) | fail)
  obtain ⟨G, hG⟩ : ∃ G, W0.heap.size = G := ⟨_, rfl⟩
  generalize hW : World.alloc _ _ = W1
  have bG : W1.heap[G]? = some (.cells (bcs (List.replicate 5 zblk)).toArray 71) := by rw [← hW, ← hG]; exact heap_alloc_new _ _
  have hb1 : Below W0.heap.size W0 W1 := by rw [← hW]; exact (Below.refl _ _).alloc (Nat.le_refl _) _
  have hk1 := hk0.below hb1
  have hB1 := hb0.trans (hb1.mono hb0.size)
  have hno : ¬ Own (w.heap.size + 1) w.heap.size (.slice none 0 0) G := fun hj => by have := (hk0.own_ge _ hj).2; omega
  have hGw : w.heap.size ≤ G := by have := hb0.size; omega
  have hf0 : FiveL (List.replicate 5 zblk) (rd (DS.new 16)) := ⟨by simp, fun y hy => by rw [List.eq_of_mem_replicate hy]; exact zblk_len, fun k hk => by rw [List.getElem?_replicate, if_pos hk, rd_new]⟩
  rw [hG]
  clear hW hG hk0 hb0 hb1
  go_wp2_with fail
  go_loopw [10] (fun i wr => ∃ (k : Nat) (s : DS) (v : Value) (wl : List Blk), i = .int .i64 k ∧ k ≤ l.length ∧ s.done ≤ k ∧ s.lo.length ≤ k ∧ s.bl.length = 16 ∧ Free s ∧ Dk wr w.heap.size (w.heap.size + 1) w.heap.size v s ∧ Below w.heap.size w wr ∧ FiveL wl (rd s) ∧ wr.heap[G]? = some (.cells (bcs wl).toArray 71) ∧ ¬ Own (w.heap.size + 1) w.heap.size v G) (fun i _ => l.length - (intOf i).toNat)
  case atStart => exact ⟨0, DS.new 16, _, _, rfl, by omega, Nat.le_refl _, Nat.le_refl _, rfl, ⟨rfl, rfl⟩, hk1, hB1, hf0, bG, hno⟩
  case round =>
    clear hk1 hB1 bG hno hf0
    obtain ⟨k, s, v, wl, rfl, hk, hdk, hlk, hbl, hfr, hD, hB, hL, bG, hno⟩ := hrel
    by_cases hlt : k < l.length
    · obtain ⟨x, hx⟩ : ∃ x, l[k]? = some x := ⟨_, List.getElem?_eq_getElem hlt⟩
      have hxm := List.mem_of_getElem? hx
      obtain ⟨b, o, rfl, hb, q0, q1, q2, q3⟩ := step_at (hs.below hB) hx
      have hxi := (hok x hxm).1
      have g1 : (k : Int) < l.length := by omega
      have hzr := hB.size
      have hGl := (Array.getElem?_eq_some_iff.1 bG).1
      obtain ⟨m, hm7, hm0⟩ : ∃ m : Nat, x.i % 5 = (m : Int) ∧ m < 5 := ⟨(x.i % 5).toNat, by omega, by omega⟩
      have hmod := fun W => mod_any x.i 5 (by omega) (by omega) hxi W
      rw [show (((5 : Nat) : Int)) = 5 from rfl, hm7] at hmod
      have hfl : ∀ W, Calls Try.prog 30 #[.int .u8 (x.v.toNat : Int)] W (Ret W (.agg (bvs (fillB x.v)).toArray)) := fun W => fill_any x.v W
      have hin : s.inB (m : Int) = true := DS.inB_iff.2 ⟨by omega, by rw [hbl]; omega⟩
      have hfw := free_write hfr hin (fillB x.v)
      have g7 : (m : Int) < 5 := by omega
      unfold bv at q2
      clear hx hxm q3 q0
      go_wp2_with fail
      refine (hmod _).mono ?_
      rintro e _ ⟨rfl, rfl⟩
      clear hmod q1
      go_wp2_with fail
      refine (hfl _).mono ?_
      rintro e W1 ⟨rfl, hb1⟩
      have hD1 := hD.below hb1
      have hB1 := hB.trans (hb1.mono hzr)
      have bG1 := bBlk hb1 hGl bG
      have hz1 := hb1.size
      have q2' : W1.cell? ⟨b, o + k * 4 + 2, none⟩ = some (.int .u8 (x.v.toNat : Int)) := (World.cell?_of_block (a := ⟨b, o + k * 4 + 2, none⟩) (hb1.block b (by omega))).trans q2
      have hwr := write_any hD1 (by omega) (by omega) (m : Int) (fillB_len x.v)
      rw [hfw.1] at hwr
      unfold bkv dp at hwr
      clear hD hB bG q2 hb1
      go_wp2_with fail
      refine hwr.mono ?_
      rintro e W2 ⟨rfl, v2, hD2, hs2⟩
      obtain ⟨hno2, e2⟩ := hs2.far hno (by omega)
      have hB2 := hB1.trans (hs2.below hD1)
      have bG2 := e2.trans bG1
      have q2 : W2.cell? ⟨b, o + k * 4 + 2, none⟩ = some (.int .u8 (x.v.toNat : Int)) := (World.cell?_of_block (a := ⟨b, o + k * 4 + 2, none⟩) (hs2.but.block b (by omega) (fun hj => by have := (hD1.own_ge b hj).1; omega))).trans q2'
      have hz2 := hs2.but.size
      have hGl2 := (Array.getElem?_eq_some_iff.1 bG2).1
      have hwbl := (write_bl s (m : Int) (fillB x.v)).trans hbl
      clear hD1 hB1 bG1 q2' e2 hs2 hwr
      have hrdn : ∀ y ∈ wl, y.length = 128 := hL.2.1
      have hwl7 := hL.1
      have hR : (s.write (m : Int) (fillB x.v)).done = s.done + 1 ∧ (s.write (m : Int) (fillB x.v)).lo.length = s.lo.length + 1 ∧ Free (s.write (m : Int) (fillB x.v)) ∧ FiveL (wl.set m (fillB x.v)) (rd (s.write (m : Int) (fillB x.v))) :=
        ⟨by rw [hfw.2.1]; rfl, by rw [hfw.2.1]; simp, hfw.2.2, five_set hL hm0 (fillB_len _) (fun j => by rw [rd_write]; by_cases e : j = m; rw [if_pos ⟨hfw.1, e⟩, if_pos e]; rw [if_neg (fun hh => e hh.2), if_neg e])⟩
      obtain ⟨s2, hs2e⟩ : ∃ s2, s.write (m : Int) (fillB x.v) = s2 := ⟨_, rfl⟩
      rw [hs2e] at hD2 hwbl hR
      have R := Lib.hid hR
      clear hs2e hL hfw hR hin hfr
      go_wp2_with fail
      refine (hfl _).mono ?_
      rintro e W3 ⟨rfl, hb3⟩
      have bG3 := bBlk hb3 (Array.getElem?_eq_some_iff.1 bG2).1 bG2
      have hth : W3.there G (m * 128) 128 := there_blk bG3 (by rw [List.size_toArray, show (bcs wl).length = wl.length * 128 from flat_len (fun y hy => by rw [bvs_len]; exact hrdn y hy), hwl7]; omega)
      obtain ⟨W4, hW4⟩ : ∃ W4, W3.setCells G (m * 128) (bvs (fillB x.v)) = W4 := ⟨_, rfl⟩
      have hbt : But W3.heap.size (· = G) W3 W4 := by rw [← hW4]; exact but_sets _ G _ (But.refl _ _ _) rfl
      have hD3 := hD2.below hb3
      have hD4 := hD3.kept hbt (Nat.le_refl _) (fun j hj => by rw [hj]; exact hno2)
      have hB4 := (hB2.trans (hb3.mono (by omega))).trans (hbt.below (by have := hb3.size; omega) (fun j hj => by rw [hj]; exact hGw))
      have bG4 : W4.heap[G]? = some (.cells (bcs (wl.set m (fillB x.v))).toArray 71) := by
        rw [← hW4, blk_sets _ _ bG3, bcs_put hrdn (by omega) (fillB_len x.v)]
      clear hD2 hD3 hB2 bG2 bG3 hb3 hbt q2
      go_upto_region 7 with (first
        | (refine wpList_store_mid rfl 55 (.tmp 83) (.tmp 82) rfl G (m * 128) (bvs (fillB x.v)).toArray rfl rfl (by rw [List.size_toArray, bvs_len, fillB_len]; exact hth) (bk_info (fillB_len x.v)) (all_oneCell_toArray (oneCell_bvs _)) ?_)
        | fail)
      try rw [hW4]
      clear hW4 hth
      go_wp2_with fail
      go_roundw
      case rel => exact ⟨k + 1, s2, v2, wl.set m (fillB x.v), by go_num, by omega, by rw [R.out.1]; omega, by rw [R.out.2.1]; omega, hwbl, R.out.2.2.1, hD4, hB4, R.out.2.2.2, bG4, hno2⟩
      case measure => simp [intOf]; omega
    · obtain rfl : k = l.length := by omega
      have g1 : ¬ (l.length : Int) < l.length := by omega
      clear hs hok
      have hfs := free_sync hfr
      have hsy := sync_any hD (by omega) (by omega)
      rw [hfs.1] at hsy
      unfold dp at hsy
      have hlo0 : s.sync.lo = [] := by rw [hfs.2.1]
      have hR : Free s.sync ∧ s.sync.lo.length = 0 ∧ s.sync.done = s.done + 1 := ⟨hfs.2.2, by rw [hlo0]; rfl, by rw [hfs.2.1]; rfl⟩
      have hL2 : FiveL wl (rd s.sync) := five_same hL (rd_sync hD.ok)
      have hwbl := (sync_bl s).trans hbl
      go_wp2_with fail
      refine hsy.mono ?_
      rintro e W2 ⟨rfl, v2, hD2, hs2⟩
      obtain ⟨hno2, e2⟩ := hs2.far hno (Array.getElem?_eq_some_iff.1 bG).1
      have hB2 := hB.trans (hs2.below hD)
      have bG2 := e2.trans bG
      clear hsy hfs hD hB bG e2 hs2 hL hno
      obtain ⟨s2, hs2e⟩ : ∃ s2, s.sync = s2 := ⟨_, rfl⟩
      rw [hs2e] at hD2 hwbl hR hL2 hlo0
      obtain ⟨hfr2, hl0, hd1⟩ := hR
      clear hs2e
      go_wp2_with fail
      refine (loose_any hD2).mono ?_
      rintro e _ ⟨rfl, rfl⟩
      rw [hl0]
      have key : Hid (∀ torn : Int, FiveL wl (cr s2 keep torn)) := Lib.hid fun torn => five_same hL2 (fun j => cr_none hlo0 keep torn j)
      by_cases hl0' : l'.length = 0
      · have g9 : ¬ (0 : Int) < l'.length := by omega
        clear hl0'
        go_wp2_with fail
        go_loopw [13] (fun i wr => ∃ (k : Nat) (s : DS) (v : Value) (wl : List Blk), i = .int .i64 k ∧ k ≤ l'.length ∧ Hid (s.lo.length = k) ∧ s.done ≤ 201 + k ∧ s.bl.length = 16 ∧ Free s ∧ Dk wr w.heap.size (w.heap.size + 1) w.heap.size v s ∧ Below w.heap.size w wr ∧ FiveL wl (cr s keep (-1)) ∧ wr.heap[G]? = some (.cells (bcs wl).toArray 71) ∧ ¬ Own (w.heap.size + 1) w.heap.size v G) (fun i _ => l'.length - (intOf i).toNat)
        case atStart => exact ⟨0, s2, v2, wl, rfl, by omega, Lib.hid hl0, by omega, hwbl, hfr2, hD2, hB2, key.out _, bG2, hno2⟩
        case round =>
          clear hD2 hB2 bG2 hno2 key hL2 hfr2 hwbl hl0 hlo0 hd1
          obtain ⟨k, s, v, wl, rfl, hk, HLK, hdk, hbl, hfr, hD, hB, hL, bG, hno⟩ := hrel
          have hlk := HLK.out
          by_cases hlt : k < l'.length
          · exfalso; omega
          · obtain rfl : k = l'.length := by omega
            have g1 : ¬ (l'.length : Int) < l'.length := by omega
            clear hs' hok' hlk
            have hxs1 := hK.below (B := w.heap.size) hB
            have hzr := hB.size
            have hGl := (Array.getElem?_eq_some_iff.1 bG).1
            obtain ⟨W1, hW1⟩ : ∃ W1, wr.alloc (.cells #[] 5) = W1 := ⟨_, rfl⟩
            have hb1 : Below wr.heap.size wr W1 := by rw [← hW1]; exact (Below.refl _ _).alloc (Nat.le_refl _) _
            have hrow0 : W1.ownsRow wr.heap.size 5 1 (.slice (some ⟨wr.heap.size, 0, none⟩) 0 0) 0 [] := by rw [← hW1]; exact own_none' wr wr.heap.size 5 1 (Nat.le_refl _)
            have hxs2 := hxs1.below (hb1.mono hzr)
            have hz1 : wr.heap.size + 1 ≤ W1.heap.size := by rw [← hW1]; simp
            obtain ⟨A2, c2, W2, hrun, hrow2, hg2, hat2⟩ := run_app (P := Try.prog) W1 (ty := 50) (t := 50) Try.underlying50 elemU8'' hrow0 hxs2 (c := c3) (oneCell_bvs _) (by simp only [maxLen]; omega) (by omega) (by omega)
            rw [Nat.zero_add, List.nil_append] at hrow2
            rw [Nat.zero_add] at hrun hat2
            have hb2 : Below wr.heap.size W1 W2 := (Below.refl _ _).grown hg2 (by omega) (fun j hj => by simp [Value.ownBlock] at hj; omega)
            have hbY2 := hb1.trans hb2
            have hD2 := hD.below hbY2
            have hB2 := hB.trans (hbY2.mono hzr)
            have bG2 := bBlk hbY2 hGl bG
            have hA2 : ∀ b o, 0 < keep.length → A2 = some ⟨b, o, none⟩ → ¬ Own (w.heap.size + 1) w.heap.size v b := fun b o _ e hj => by
              have h1 := (hD.own_ge b hj).2
              have h2 := (hrow2.lt b (by rw [e]; rfl)).1
              omega
            have hcr := crash_any hD2 (by rw [HLK.out]; omega) keep A2 c2 (by omega) (Sl.of_own hrow2) hA2 (-1)
            unfold dp at hcr
            have hz2 := hbY2.size
            have hL3 : FiveL wl (rd (s.crash keep (-1))) := five_same hL (fun j => rfl)
            have h3 : (s.crash keep (-1)).down = false ∧ (s.crash keep (-1)).lo.length = 0 ∧ (s.crash keep (-1)).bl.length = 16 := ⟨rfl, rfl, by show (crashTo _ _ _ _ _).length = 16; rw [crashTo_len]; exact hbl⟩
            obtain ⟨s3, hs3e⟩ : ∃ s3, s.crash keep (-1) = s3 := ⟨_, rfl⟩
            rw [hs3e] at hcr hL3 h3
            obtain ⟨hdn, hlo3, hbl3⟩ := h3
            clear hs3e hrow0 hrow2 hg2 hat2 hA2 hxs1 hxs2 hb1 hb2 hbY2 hD hL hK hB bG
            go_wp2_with fail
            refine hcr.mono ?_
            rintro e W3 ⟨rfl, v3, hD3, hs3⟩
            obtain ⟨hno3, e3⟩ := hs3.far hno (by omega)
            have hB3 := hB2.trans (hs3.below hD2)
            have bG3 := e3.trans bG2
            clear hcr hs3 hD2 hB2 bG2 e3 hno hrun hW1
            go_wp2_with fail
            go_loopw [17] (fun i wr => ∃ (k : Nat), i = .int .i64 k ∧ k ≤ 5 ∧ Dk wr w.heap.size (w.heap.size + 1) w.heap.size v3 s3 ∧ Below w.heap.size w wr ∧ wr.heap[G]? = some (.cells (bcs wl).toArray 71)) (fun i _ => 5 - (intOf i).toNat)
            case atStart => exact ⟨0, rfl, by omega, hD3, hB3, bG3⟩
            case round =>
              clear hD3 hB3 bG3
              obtain ⟨m, rfl, hm5, hD, hB, bG⟩ := hrel
              by_cases hlt : m < 5
              · have g1 : (m : Int) < 5 := by omega
                have hin : s3.inB (m : Int) = true := DS.inB_iff.2 ⟨by omega, by rw [hbl3]; omega⟩
                have hr := read_any hD (by omega) (m : Int)
                have hrl := rd_len hD.ok m
                have hlkm := hL3.2.2 m hlt
                obtain ⟨R, hRe⟩ : ∃ R, rd s3 m = R := ⟨_, rfl⟩
                have hrow := bcs_at bG hL3.2.1 (hlkm.trans (by rw [hRe]))
                rw [hRe] at hrl
                have hGl2 := (Array.getElem?_eq_some_iff.1 bG).1
                have e1 : s3.read m = R := by rw [← hRe]; simp [DS.read, hin, hdn, rd]
                have e2 : s3.readE m = 0 := by simp [DS.readE, hin, hdn]
                rw [e1, e2] at hr
                unfold bkv dp at hr
                clear e1 e2 hRe hlkm hin
                go_wp2_with fail
                refine hr.mono ?_
                rintro e W5 ⟨rfl, hb5⟩
                obtain ⟨W6, hW6⟩ : ∃ W6, World.setRow (W5.alloc (.cells (bvs zblk).toArray 55)) W5.heap.size (bvs R).toArray = W6 := ⟨_, rfl⟩
                have hb6 : Below W5.heap.size W5 W6 := by rw [← hW6]; exact bSetRow ((Below.refl _ _).alloc (Nat.le_refl _) _) (Nat.le_refl _) _
                have g6 : W6.heap[W5.heap.size]? = some (.cells (bvs R).toArray 55) := by rw [← hW6]; exact setRow_heap _ _ _ _ _ _ (heap_alloc_new _ _)
                have hz5 := hb5.size
                have hzr5 := hB.size
                have hD6 := (hD.below hb5).below hb6
                have hrow6 := bRange hb6 (by omega) (bRange hb5 hGl2 hrow)
                have bG6 := bBlk hb6 (by omega) (bBlk hb5 hGl2 bG)
                have hB6 := hB.trans ((hb5.mono (by omega)).trans (hb6.mono (by omega)))
                have hq8 := range_regrown g6
                have hqG : ∀ w', (∃ p : Regrown, w' = grow (redrawn W6 p.d) p.os) → w'.rangeAt G (m * 128) (bvs R) := by
                  rintro w' ⟨p, rfl⟩ j u hj
                  exact cell_regrown (hrow6 j u hj) _ _
                have hsame := bk_same hrl
                clear hr g6 hb6 hb5 hrow hrow6 hD hB bG
                go_upto_region 36 with (first
                  | (refine wpList_new rfl blkZ rfl ?_)
                  | (refine wpList_store_row rfl 55 (.tmp 18) (.tmp 169) rfl _ (bvs R).toArray rfl rfl _ (bvs zblk).toArray (heap_alloc_new _ _) (bk_info hrl) (blk_sizes zblk_len hrl) (all_oneCell_toArray (oneCell_bvs _)) ?_)
                  | fail)
                clear hW6
                refine wp_region_quiet_below (by kernel_rfl) (by kernel_rfl) ?_
                iterate 3 (quiet_step (fail))
                refine wpQuiet_load_row (by simp [Region.wanted, yielded, Act.put]) 55 _ rfl _ _ rfl (bvs R) hq8 _ Try.underlying55 rfl (bk_len hrl) ?_
                iterate 2 (quiet_step (fail))
                refine wpQuiet_load_row (by simp [Region.wanted, yielded, Act.put]) 55 _ rfl _ _ rfl (bvs R) hqG _ Try.underlying55 rfl (bk_len hrl) ?_
                iterate 2 (quiet_step (fail))
                refine wpQuiet_nil ?_
                intro _ hw'
                obtain ⟨pq, rfl⟩ := hw'
                have hbV := below_regrown W6 pq.d pq.os
                generalize grow (redrawn W6 pq.d) pq.os = V at *
                have hDV := hD6.below hbV
                have hBV := hB6.trans (hbV.mono hB6.size)
                have bGV := bBlk hbV (Array.getElem?_eq_some_iff.1 bG6).1 bG6
                clear hD6 hB6 bG6 hq8 hqG hsame hbV
                go_wp2_with fail
                go_roundw
                case rel => exact ⟨m + 1, by go_num, by omega, hDV, hBV, bGV⟩
                case measure => simp [intOf]; omega
              · obtain rfl : m = 5 := by omega
                go_wp2_with fail
                refine (wakes01_any _).mono ?_
                rintro e W7 ⟨rfl, hb7⟩
                go_wp2
                go_ret
                exact Ret.mk rfl (hB.trans (hb7.mono hB.size))
      · obtain ⟨y, hy⟩ : ∃ y, l'[0]? = some y := ⟨_, List.getElem?_eq_getElem (by omega)⟩
        have g9 : (0 : Int) < l'.length := by omega
        have hyi := (hok' y (List.mem_of_getElem? hy)).1
        obtain ⟨yb, yo, hAe, hyb, -, y1, -, -⟩ := step_at (hs'.below hB2) hy
        rw [Nat.zero_mul, Nat.add_zero] at y1
        have wl2 : IntKind.i64.wrap ((l'.length : Int) + 2) = ((l'.length + 2 : Nat) : Int) := by rw [wrap_small _ (by omega) (by omega)]; omega
        have hmd := fun W => mod_any y.i (l'.length + 2) (by omega) (by omega) hyi W
        obtain ⟨mm, hmm, hmm0⟩ : ∃ mm : Int, y.i % ((l'.length + 2 : Nat) : Int) = mm ∧ 0 ≤ mm ∧ mm < 300 := ⟨_, rfl, Int.emod_nonneg _ (by omega), by have := Int.emod_lt_of_pos y.i (show (0 : Int) < ((l'.length + 2 : Nat) : Int) by omega); omega⟩
        rw [hmm] at hmd
        obtain ⟨tn, htn⟩ : ∃ tn, mm - 1 = tn := ⟨_, rfl⟩
        have wtn : IntKind.i64.wrap (mm - 1) = tn := by rw [htn, IntKind.wrap_i64]; omega
        have HTN := Lib.hid (show -1 ≤ tn ∧ tn ≤ 300 by omega)
        subst hAe
        clear hy hl0' htn hmm
        go_wp2_with fail
        refine (hmd _).mono ?_
        rintro e _ ⟨rfl, rfl⟩
        clear hmd y1 wl2
        go_wp2_with fail
        clear wtn
        go_loopw [13] (fun i wr => ∃ (k : Nat) (s : DS) (v : Value) (wl : List Blk), i = .int .i64 k ∧ k ≤ l'.length ∧ Hid (s.lo.length = k) ∧ s.done ≤ 201 + k ∧ s.bl.length = 16 ∧ Free s ∧ Dk wr w.heap.size (w.heap.size + 1) w.heap.size v s ∧ Below w.heap.size w wr ∧ FiveL wl (cr s keep tn) ∧ wr.heap[G]? = some (.cells (bcs wl).toArray 71) ∧ ¬ Own (w.heap.size + 1) w.heap.size v G) (fun i _ => l'.length - (intOf i).toNat)
        case atStart => exact ⟨0, s2, v2, wl, rfl, by omega, Lib.hid hl0, by omega, hwbl, hfr2, hD2, hB2, key.out _, bG2, hno2⟩
        case round =>
          clear hD2 hB2 bG2 hno2 key hL2 hfr2 hwbl hl0 hlo0 hd1
          obtain ⟨k, s, v, wl, rfl, hk, HLK, hdk, hbl, hfr, hD, hB, hL, bG, hno⟩ := hrel
          have hlk := HLK.out
          by_cases hlt : k < l'.length
          · obtain ⟨x, hx⟩ : ∃ x, l'[k]? = some x := ⟨_, List.getElem?_eq_getElem hlt⟩
            have hxm := List.mem_of_getElem? hx
            obtain ⟨b, o, hbo, hb, q0, q1, q2, q3⟩ := step_at (hs'.below hB) hx
            obtain ⟨rfl, rfl⟩ : b = yb ∧ o = yo := by cases hbo; exact ⟨rfl, rfl⟩
            have hxi := (hok' x hxm).1
            have g1 : (k : Int) < l'.length := by omega
            have hlk2 : s.lo.length ≤ k := by omega
            clear hlk
            have hzr := hB.size
            have hGl := (Array.getElem?_eq_some_iff.1 bG).1
            obtain ⟨m, hm7, hm0⟩ : ∃ m : Nat, x.i % 5 = (m : Int) ∧ m < 5 := ⟨(x.i % 5).toNat, by omega, by omega⟩
            have hmod := fun W => mod_any x.i 5 (by omega) (by omega) hxi W
            rw [show (((5 : Nat) : Int)) = 5 from rfl, hm7] at hmod
            have hfl : ∀ W, Calls Try.prog 30 #[.int .u8 (x.v.toNat : Int)] W (Ret W (.agg (bvs (fillB x.v)).toArray)) := fun W => fill_any x.v W
            have hin : s.inB (m : Int) = true := DS.inB_iff.2 ⟨by omega, by rw [hbl]; omega⟩
            have hfw := free_write hfr hin (fillB x.v)
            have g7 : (m : Int) < 5 := by omega
            unfold bv at q2
            clear hx hxm q3 q0
            go_wp2_with fail
            refine (hmod _).mono ?_
            rintro e _ ⟨rfl, rfl⟩
            clear hmod q1
            go_wp2_with fail
            refine (hfl _).mono ?_
            rintro e W1 ⟨rfl, hb1⟩
            have hD1 := hD.below hb1
            have hB1 := hB.trans (hb1.mono hzr)
            have bG1 := bBlk hb1 hGl bG
            have hz1 := hb1.size
            have q2' : W1.cell? ⟨b, o + k * 4 + 2, none⟩ = some (.int .u8 (x.v.toNat : Int)) := (World.cell?_of_block (a := ⟨b, o + k * 4 + 2, none⟩) (hb1.block b (by omega))).trans q2
            have hwr := write_any hD1 (by omega) (by omega) (m : Int) (fillB_len x.v)
            rw [hfw.1] at hwr
            unfold bkv dp at hwr
            clear hD hB bG q2 hb1
            go_wp2_with fail
            refine hwr.mono ?_
            rintro e W2 ⟨rfl, v2, hD2, hs2⟩
            obtain ⟨hno2, e2⟩ := hs2.far hno (by omega)
            have hB2 := hB1.trans (hs2.below hD1)
            have bG2 := e2.trans bG1
            have q2 : W2.cell? ⟨b, o + k * 4 + 2, none⟩ = some (.int .u8 (x.v.toNat : Int)) := (World.cell?_of_block (a := ⟨b, o + k * 4 + 2, none⟩) (hs2.but.block b (by omega) (fun hj => by have := (hD1.own_ge b hj).1; omega))).trans q2'
            have hz2 := hs2.but.size
            have hGl2 := (Array.getElem?_eq_some_iff.1 bG2).1
            have hwbl := (write_bl s (m : Int) (fillB x.v)).trans hbl
            have hks := hK.below (B := w.heap.size) hB2
            have hPl := cr_len hD1.ok keep tn m
            have hPm := hL.2.2 m hm0
            have hrdn : ∀ y ∈ wl, y.length = 128 := hL.2.1
            have hwl7 := hL.1
            have hcr0 := cr_write hfr hin (fillB x.v) keep tn
            rw [HLK.out] at hcr0
            have hR : (s.write (m : Int) (fillB x.v)).done = s.done + 1 ∧ (s.write (m : Int) (fillB x.v)).lo.length = s.lo.length + 1 ∧ Free (s.write (m : Int) (fillB x.v)) := ⟨by rw [hfw.2.1]; rfl, by rw [hfw.2.1]; simp, hfw.2.2⟩
            obtain ⟨s2, hs2e⟩ : ∃ s2, s.write (m : Int) (fillB x.v) = s2 := ⟨_, rfl⟩
            rw [hs2e] at hD2 hwbl hR hcr0
            have R := Lib.hid hR
            obtain ⟨P, hP⟩ : ∃ P, cr s keep tn m = P := ⟨_, rfl⟩
            rw [hP] at hcr0 hPl hPm
            clear hs2e hfw hR hin hfr hD1 hB1 bG1 q2' e2 hs2 hwr
            by_cases hkk : k < keep.length
            · have g8 : (k : Int) < keep.length := by omega
              obtain ⟨kb, ko, rfl, hkb, hkr⟩ := hks.at_ (by omega)
              have hkc : W2.cell? ⟨kb, ko + k, none⟩ = some (bv keep[k]) := hkr k _ (by unfold bvs; rw [List.getElem?_map, List.getElem?_eq_getElem hkk]; rfl)
              unfold bv at hkc
              have hlt8 := (keep[k]).toNat_lt
              have hke : keeps keep k = (keep[k].toNat % 2 == 1) := by unfold keeps; rw [List.getElem?_eq_getElem hkk]
              generalize hkn : keep[k].toNat = kn at *
              clear hkn hkr hks
              rcases Nat.mod_two_eq_zero_or_one kn with hm' | hm'
              · have ht : Int.tmod (kn : Int) 2 = 0 := by rw [Int.tmod_eq_emod_of_nonneg (by omega)]; omega
                have hcr : ∀ j, cr s2 keep tn j = cr s keep tn j := fun j => by
                  rw [hcr0, hke, hm']
                  by_cases e : j = m
                  · subst e; rw [if_pos rfl]; simp [hP]
                  · rw [if_neg e]
                have HF := Lib.hid (five_same hL hcr)
                clear hcr hcr0 hke hm' hL hP hPm q2
                go_wp2_with fail
                go_roundw
                case rel => exact ⟨k + 1, s2, v2, wl, by go_num, by omega, Lib.hid (by rw [R.out.2.1, HLK.out]), by rw [R.out.1]; omega, hwbl, R.out.2.2, hD2, hB2, HF.out, bG2, hno2⟩
                case measure => simp [intOf]; omega
              · have ht : Int.tmod (kn : Int) 2 = 1 := by rw [Int.tmod_eq_emod_of_nonneg (by omega)]; omega
                have hcr : ∀ j, cr s2 keep tn j = if j = m then halfOf (sizeOf' tn k) (fillB x.v) P else cr s keep tn j := fun j => by
                  rw [hcr0, hke, hm']; rfl
                clear hcr0 hke hm' hP
                by_cases hkt : (k : Int) = tn
                · skip
                  have hsz : sizeOf' tn k = 64 := by unfold sizeOf'; rw [if_pos hkt]
                  obtain rfl : tn = (k : Int) := hkt.symm
                  have hgq : ∀ j, cr s2 keep (k : Int) j = if j = m then halfOf 64 (fillB x.v) P else cr s keep (k : Int) j := fun j => by rw [hcr j, hsz]
                  have HGQ := Lib.hid (five_set hL hm0 (halfOf_len (by omega) (fillB_len x.v) hPl) hgq)
                  clear hcr hgq hsz
                  go_wp2_with fail
                  go_loopw [16] (fun j wq => ∃ q : Nat, j = .int .i64 q ∧ q ≤ 64 ∧ wq.heap[G]? = some (.cells (bcs (wl.set m (halfOf q (fillB x.v) P))).toArray 71) ∧ But W2.heap.size (· = G) W2 wq) (fun j _ => 64 - (intOf j).toNat)
                  case atStart => exact ⟨0, rfl, by omega, by rw [halfOf_none', set_same hPm]; exact bG2, But.refl _ _ _⟩
                  case round =>
                    obtain ⟨q, rfl, hq, gq, hbt⟩ := hrel
                    by_cases hql : q < 64
                    · have g4 : (q : Int) < 64 := by omega
                      have g44 : (q : Int) < 128 := by omega
                      have hHl : (halfOf q (fillB x.v) P).length = 128 := halfOf_len (by omega) (fillB_len _) hPl
                      have hwq : ∀ y ∈ wl.set m (halfOf q (fillB x.v) P), y.length = 128 := fun y hy => by
                        rcases List.mem_or_eq_of_mem_set hy with h1 | rfl
                        · exact hrdn y h1
                        · exact hHl
                      have hgm : (wl.set m (halfOf q (fillB x.v) P))[m]? = some (halfOf q (fillB x.v) P) := by rw [List.getElem?_set_self (by omega)]
                      have hset := bcs_set1 (v := x.v) hwq hgm (show q < 128 by omega)
                      rw [half_set hPl (by omega), List.set_set] at hset
                      have hc := bcs_at gq hwq hgm
                      have hlb : (bvs (halfOf q (fillB x.v) P)).length = 128 := by rw [bvs_len, hHl]
                      have c1 := hc q _ (List.getElem?_eq_getElem (by rw [hlb]; omega))
                      have f1 := blk_frozen gq (m * 128 + q)
                      have HSET := Lib.hid hset
                      generalize (bvs (halfOf q (fillB x.v) P))[q]'_ = old at c1
                      have q2q : wr.cell? ⟨b, o + k * 4 + 2, none⟩ = some (.int .u8 (x.v.toNat : Int)) := (World.cell?_of_block (a := ⟨b, o + k * 4 + 2, none⟩) (hbt.block b (by omega) (by omega))).trans q2
                      clear hset hc hwq hgm q2
                      go_wp2_with fail
                      go_still_tail 9, (by kernel_rfl)
                      change wpList _ _ _ _ _ (World.drew _)
                      go_wp2
                      generalize hX : World.drew (World.setCell _ _ _) = X
                      have gX : X.heap[G]? = some (.cells (bcs (wl.set m (halfOf (q + 1) (fillB x.v) P))).toArray 71) := by
                        rw [← hX, ← HSET.out, ← List.setIfInBounds_toArray]; exact blk_set gq (m * 128 + q) _
                      have hbX : But W2.heap.size (· = G) W2 X := by rw [← hX]; exact (hbt.setp (m * 128 + q) _).drew
                      clear hX
                      go_roundw
                      case rel => exact ⟨q + 1, by go_num, by omega, gX, hbX⟩
                      case measure => simp [intOf]; omega
                    · obtain rfl : q = 64 := by omega
                      have hDq := hD2.kept hbt (Nat.le_refl _) (fun j hj => by rw [hj]; exact hno2)
                      have hBq := hB2.trans (hbt.below (by omega) (fun j hj => by rw [hj]; exact hGw))
                      clear q2
                      go_wp2_with fail
                      go_roundw
                      case rel => exact ⟨k + 1, s2, v2, _, by go_num, by omega, Lib.hid (by rw [R.out.2.1, HLK.out]), by rw [R.out.1]; omega, hwbl, R.out.2.2, hDq, hBq, HGQ.out, gq, hno2⟩
                      case measure => simp [intOf]; omega
                · skip
                  have hsz : sizeOf' tn k = 128 := by unfold sizeOf'; rw [if_neg hkt]
                  have hgq : ∀ j, cr s2 keep tn j = if j = m then halfOf 128 (fillB x.v) P else cr s keep tn j := fun j => by rw [hcr j, hsz]
                  have HGQ := Lib.hid (five_set hL hm0 (halfOf_len (by omega) (fillB_len x.v) hPl) hgq)
                  clear hcr hgq hsz
                  go_wp2_with fail
                  go_loopw [16] (fun j wq => ∃ q : Nat, j = .int .i64 q ∧ q ≤ 128 ∧ wq.heap[G]? = some (.cells (bcs (wl.set m (halfOf q (fillB x.v) P))).toArray 71) ∧ But W2.heap.size (· = G) W2 wq) (fun j _ => 128 - (intOf j).toNat)
                  case atStart => exact ⟨0, rfl, by omega, by rw [halfOf_none', set_same hPm]; exact bG2, But.refl _ _ _⟩
                  case round =>
                    obtain ⟨q, rfl, hq, gq, hbt⟩ := hrel
                    by_cases hql : q < 128
                    · have g4 : (q : Int) < 128 := by omega
                      have g44 : (q : Int) < 128 := by omega
                      have hHl : (halfOf q (fillB x.v) P).length = 128 := halfOf_len (by omega) (fillB_len _) hPl
                      have hwq : ∀ y ∈ wl.set m (halfOf q (fillB x.v) P), y.length = 128 := fun y hy => by
                        rcases List.mem_or_eq_of_mem_set hy with h1 | rfl
                        · exact hrdn y h1
                        · exact hHl
                      have hgm : (wl.set m (halfOf q (fillB x.v) P))[m]? = some (halfOf q (fillB x.v) P) := by rw [List.getElem?_set_self (by omega)]
                      have hset := bcs_set1 (v := x.v) hwq hgm (show q < 128 by omega)
                      rw [half_set hPl (by omega), List.set_set] at hset
                      have hc := bcs_at gq hwq hgm
                      have hlb : (bvs (halfOf q (fillB x.v) P)).length = 128 := by rw [bvs_len, hHl]
                      have c1 := hc q _ (List.getElem?_eq_getElem (by rw [hlb]; omega))
                      have f1 := blk_frozen gq (m * 128 + q)
                      have HSET := Lib.hid hset
                      generalize (bvs (halfOf q (fillB x.v) P))[q]'_ = old at c1
                      have q2q : wr.cell? ⟨b, o + k * 4 + 2, none⟩ = some (.int .u8 (x.v.toNat : Int)) := (World.cell?_of_block (a := ⟨b, o + k * 4 + 2, none⟩) (hbt.block b (by omega) (by omega))).trans q2
                      clear hset hc hwq hgm q2
                      go_wp2_with fail
                      go_still_tail 9, (by kernel_rfl)
                      change wpList _ _ _ _ _ (World.drew _)
                      go_wp2
                      generalize hX : World.drew (World.setCell _ _ _) = X
                      have gX : X.heap[G]? = some (.cells (bcs (wl.set m (halfOf (q + 1) (fillB x.v) P))).toArray 71) := by
                        rw [← hX, ← HSET.out, ← List.setIfInBounds_toArray]; exact blk_set gq (m * 128 + q) _
                      have hbX : But W2.heap.size (· = G) W2 X := by rw [← hX]; exact (hbt.setp (m * 128 + q) _).drew
                      clear hX
                      go_roundw
                      case rel =>
                        have hbe : ((k : Int) == tn) = false := by simpa using hkt
                        rw [hbe]
                        exact ⟨.int .i64 ((q : Int) + 1), _, _, _, _, _, _, _, _, _, _, _, _, _, _, ⟨q + 1, by go_num, by omega, gX, hbX⟩, rfl⟩
                      case measure => simp [intOf]; omega
                    · obtain rfl : q = 128 := by omega
                      have hDq := hD2.kept hbt (Nat.le_refl _) (fun j hj => by rw [hj]; exact hno2)
                      have hBq := hB2.trans (hbt.below (by omega) (fun j hj => by rw [hj]; exact hGw))
                      clear q2
                      go_wp2_with fail
                      go_roundw
                      case rel => exact ⟨k + 1, s2, v2, _, by go_num, by omega, Lib.hid (by rw [R.out.2.1, HLK.out]), by rw [R.out.1]; omega, hwbl, R.out.2.2, hDq, hBq, HGQ.out, gq, hno2⟩
                      case measure => simp [intOf]; omega
            · have g8 : ¬ (k : Int) < keep.length := by omega
              have hke : keeps keep k = false := by unfold keeps; rw [List.getElem?_eq_none (by omega)]
              have hcr : ∀ j, cr s2 keep tn j = cr s keep tn j := fun j => by
                rw [hcr0, hke]
                by_cases e : j = m
                · subst e; rw [if_pos rfl]; simp [hP]
                · rw [if_neg e]
              have HF := Lib.hid (five_same hL hcr)
              clear hcr hcr0 hke hL hP hPm q2 hks
              go_wp2_with fail
              go_roundw
              case rel => exact ⟨k + 1, s2, v2, wl, by go_num, by omega, Lib.hid (by rw [R.out.2.1, HLK.out]), by rw [R.out.1]; omega, hwbl, R.out.2.2, hD2, hB2, HF.out, bG2, hno2⟩
              case measure => simp [intOf]; omega
          · obtain rfl : k = l'.length := by omega
            have g1 : ¬ (l'.length : Int) < l'.length := by omega
            clear hs' hok' hlk
            have hxs1 := hK.below (B := w.heap.size) hB
            have hzr := hB.size
            have hGl := (Array.getElem?_eq_some_iff.1 bG).1
            obtain ⟨W1, hW1⟩ : ∃ W1, wr.alloc (.cells #[] 5) = W1 := ⟨_, rfl⟩
            have hb1 : Below wr.heap.size wr W1 := by rw [← hW1]; exact (Below.refl _ _).alloc (Nat.le_refl _) _
            have hrow0 : W1.ownsRow wr.heap.size 5 1 (.slice (some ⟨wr.heap.size, 0, none⟩) 0 0) 0 [] := by rw [← hW1]; exact own_none' wr wr.heap.size 5 1 (Nat.le_refl _)
            have hxs2 := hxs1.below (hb1.mono hzr)
            have hz1 : wr.heap.size + 1 ≤ W1.heap.size := by rw [← hW1]; simp
            obtain ⟨A2, c2, W2, hrun, hrow2, hg2, hat2⟩ := run_app (P := Try.prog) W1 (ty := 50) (t := 50) Try.underlying50 elemU8'' hrow0 hxs2 (c := c3) (oneCell_bvs _) (by simp only [maxLen]; omega) (by omega) (by omega)
            rw [Nat.zero_add, List.nil_append] at hrow2
            rw [Nat.zero_add] at hrun hat2
            have hb2 : Below wr.heap.size W1 W2 := (Below.refl _ _).grown hg2 (by omega) (fun j hj => by simp [Value.ownBlock] at hj; omega)
            have hbY2 := hb1.trans hb2
            have hD2 := hD.below hbY2
            have hB2 := hB.trans (hbY2.mono hzr)
            have bG2 := bBlk hbY2 hGl bG
            have hA2 : ∀ b o, 0 < keep.length → A2 = some ⟨b, o, none⟩ → ¬ Own (w.heap.size + 1) w.heap.size v b := fun b o _ e hj => by
              have h1 := (hD.own_ge b hj).2
              have h2 := (hrow2.lt b (by rw [e]; rfl)).1
              omega
            have hcr := crash_any hD2 (by rw [HLK.out]; omega) keep A2 c2 (by omega) (Sl.of_own hrow2) hA2 tn
            unfold dp at hcr
            have hz2 := hbY2.size
            have hL3 : FiveL wl (rd (s.crash keep tn)) := five_same hL (fun j => rfl)
            have h3 : (s.crash keep tn).down = false ∧ (s.crash keep tn).lo.length = 0 ∧ (s.crash keep tn).bl.length = 16 := ⟨rfl, rfl, by show (crashTo _ _ _ _ _).length = 16; rw [crashTo_len]; exact hbl⟩
            obtain ⟨s3, hs3e⟩ : ∃ s3, s.crash keep tn = s3 := ⟨_, rfl⟩
            rw [hs3e] at hcr hL3 h3
            obtain ⟨hdn, hlo3, hbl3⟩ := h3
            clear hs3e hrow0 hrow2 hg2 hat2 hA2 hxs1 hxs2 hb1 hb2 hbY2 hD hL hK hB bG
            go_wp2_with fail
            refine hcr.mono ?_
            rintro e W3 ⟨rfl, v3, hD3, hs3⟩
            obtain ⟨hno3, e3⟩ := hs3.far hno (by omega)
            have hB3 := hB2.trans (hs3.below hD2)
            have bG3 := e3.trans bG2
            clear hcr hs3 hD2 hB2 bG2 e3 hno hrun hW1
            go_wp2_with fail
            go_loopw [17] (fun i wr => ∃ (k : Nat), i = .int .i64 k ∧ k ≤ 5 ∧ Dk wr w.heap.size (w.heap.size + 1) w.heap.size v3 s3 ∧ Below w.heap.size w wr ∧ wr.heap[G]? = some (.cells (bcs wl).toArray 71)) (fun i _ => 5 - (intOf i).toNat)
            case atStart => exact ⟨0, rfl, by omega, hD3, hB3, bG3⟩
            case round =>
              clear hD3 hB3 bG3
              obtain ⟨m, rfl, hm5, hD, hB, bG⟩ := hrel
              by_cases hlt : m < 5
              · have g1 : (m : Int) < 5 := by omega
                have hin : s3.inB (m : Int) = true := DS.inB_iff.2 ⟨by omega, by rw [hbl3]; omega⟩
                have hr := read_any hD (by omega) (m : Int)
                have hrl := rd_len hD.ok m
                have hlkm := hL3.2.2 m hlt
                obtain ⟨R, hRe⟩ : ∃ R, rd s3 m = R := ⟨_, rfl⟩
                have hrow := bcs_at bG hL3.2.1 (hlkm.trans (by rw [hRe]))
                rw [hRe] at hrl
                have hGl2 := (Array.getElem?_eq_some_iff.1 bG).1
                have e1 : s3.read m = R := by rw [← hRe]; simp [DS.read, hin, hdn, rd]
                have e2 : s3.readE m = 0 := by simp [DS.readE, hin, hdn]
                rw [e1, e2] at hr
                unfold bkv dp at hr
                clear e1 e2 hRe hlkm hin
                go_wp2_with fail
                refine hr.mono ?_
                rintro e W5 ⟨rfl, hb5⟩
                obtain ⟨W6, hW6⟩ : ∃ W6, World.setRow (W5.alloc (.cells (bvs zblk).toArray 55)) W5.heap.size (bvs R).toArray = W6 := ⟨_, rfl⟩
                have hb6 : Below W5.heap.size W5 W6 := by rw [← hW6]; exact bSetRow ((Below.refl _ _).alloc (Nat.le_refl _) _) (Nat.le_refl _) _
                have g6 : W6.heap[W5.heap.size]? = some (.cells (bvs R).toArray 55) := by rw [← hW6]; exact setRow_heap _ _ _ _ _ _ (heap_alloc_new _ _)
                have hz5 := hb5.size
                have hzr5 := hB.size
                have hD6 := (hD.below hb5).below hb6
                have hrow6 := bRange hb6 (by omega) (bRange hb5 hGl2 hrow)
                have bG6 := bBlk hb6 (by omega) (bBlk hb5 hGl2 bG)
                have hB6 := hB.trans ((hb5.mono (by omega)).trans (hb6.mono (by omega)))
                have hq8 := range_regrown g6
                have hqG : ∀ w', (∃ p : Regrown, w' = grow (redrawn W6 p.d) p.os) → w'.rangeAt G (m * 128) (bvs R) := by
                  rintro w' ⟨p, rfl⟩ j u hj
                  exact cell_regrown (hrow6 j u hj) _ _
                have hsame := bk_same hrl
                clear hr g6 hb6 hb5 hrow hrow6 hD hB bG
                go_upto_region 36 with (first
                  | (refine wpList_new rfl blkZ rfl ?_)
                  | (refine wpList_store_row rfl 55 (.tmp 18) (.tmp 169) rfl _ (bvs R).toArray rfl rfl _ (bvs zblk).toArray (heap_alloc_new _ _) (bk_info hrl) (blk_sizes zblk_len hrl) (all_oneCell_toArray (oneCell_bvs _)) ?_)
                  | fail)
                clear hW6
                refine wp_region_quiet_below (by kernel_rfl) (by kernel_rfl) ?_
                iterate 3 (quiet_step (fail))
                refine wpQuiet_load_row (by simp [Region.wanted, yielded, Act.put]) 55 _ rfl _ _ rfl (bvs R) hq8 _ Try.underlying55 rfl (bk_len hrl) ?_
                iterate 2 (quiet_step (fail))
                refine wpQuiet_load_row (by simp [Region.wanted, yielded, Act.put]) 55 _ rfl _ _ rfl (bvs R) hqG _ Try.underlying55 rfl (bk_len hrl) ?_
                iterate 2 (quiet_step (fail))
                refine wpQuiet_nil ?_
                intro _ hw'
                obtain ⟨pq, rfl⟩ := hw'
                have hbV := below_regrown W6 pq.d pq.os
                generalize grow (redrawn W6 pq.d) pq.os = V at *
                have hDV := hD6.below hbV
                have hBV := hB6.trans (hbV.mono hB6.size)
                have bGV := bBlk hbV (Array.getElem?_eq_some_iff.1 bG6).1 bG6
                clear hD6 hB6 bG6 hq8 hqG hsame hbV
                go_wp2_with fail
                go_roundw
                case rel => exact ⟨m + 1, by go_num, by omega, hDV, hBV, bGV⟩
                case measure => simp [intOf]; omega
              · obtain rfl : m = 5 := by omega
                go_wp2_with fail
                refine (wakes01_any _).mono ?_
                rintro e W7 ⟨rfl, hb7⟩
                go_wp2
                go_ret
                exact Ret.mk rfl (hB.trans (hb7.mono hB.size))

set_option maxRecDepth 100000 in
theorem diskSafe_walk {H : Type} {enc : TypeId × Value → H} {W : World} {base : Nat} {v0 v1 v2 : Value} {d0 d1 d2 : DataW H} {p0 p1 p2 : List MemPlace}
    (k0 : Value.okWide Try.prog W .any base 42 v0) (h0 : DataW.Trod enc Try.prog W 0 (fun _ => true) true 42 v0 d0 p0)
    (k1 : Value.okWide Try.prog W .any base 42 v1) (h1 : DataW.Trod enc Try.prog W 0 (fun _ => true) true 42 v1 d1 p1)
    (k2 : Value.okWide Try.prog W .any base 50 v2) (h2 : DataW.Trod enc Try.prog W 0 (fun _ => true) true 50 v2 d2 p2)
    : Calls Try.prog 8 #[v0, v1, v2] W fun e W' => e = .returned (.bool true) ∧ Below W.heap.size W W' := by
  obtain ⟨A, c, l, rfl, a1, a2, a3, a4⟩ := open_steps k0 h0
  obtain ⟨A', c', l', rfl, b1, b2, b3, b4⟩ := open_steps k1 h1
  obtain ⟨A3, n, c3, l3, rfl, e1, e2, e3, -, e4, -⟩ := open_slA (encA := fun b : UInt8 => [bv b]) (ok := fun _ => True) (sz := 1) Try.underlying50 (by kernel_rfl) (by omega) (fun _ => rfl) (fun fuel cs x hx => dec_byte Try.underlying5 fuel cs x hx) k2 h2
  subst e1
  rw [map_flat] at e4
  exact diskSafe_core l3 a3 a1 a2 a4 b3 b1 b2 b4 e4 e2 e3
end Go.Proofs.Ythbaogjamenndaa
