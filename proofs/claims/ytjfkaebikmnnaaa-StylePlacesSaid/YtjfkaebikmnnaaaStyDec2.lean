/- The walk over the reference's Decode of ten bytes; both at any bytes. -/
import Derived.Test.YtjfkaebikmnnaaaStyDec
namespace Go.Proofs.Ytjfkaebikmnnaaa
set_option linter.unusedSimpArgs false
set_option linter.unusedVariables false
open Go.RowKit

def arr5 (l : List UInt8) (k : Nat) : Array Value := #[.int .i64 (if 0 < k then nib l 0 else 0), .int .i64 (if 1 < k then nib l 1 else 0), .int .i64 (if 2 < k then nib l 2 else 0), .int .i64 (if 3 < k then nib l 3 else 0), .int .i64 (if 4 < k then nib l 4 else 0)]
theorem arr5_set (l : List UInt8) {k : Nat} (h : k < 5) : (arr5 l k).setIfInBounds k (.int .i64 (nib l k)) = arr5 l (k + 1) := by
  match k, h with
  | 0, _ | 1, _ | 2, _ | 3, _ | 4, _ => simp [arr5]

set_option maxHeartbeats 1000000 in
theorem rdec_ten (b o c : Nat) (hc : 10 ≤ c) (l : List UInt8) (hl : l.length = 10) (w : World) (hb : b < w.heap.size) (hr : w.rangeAt b o (bvs l)) :
    Calls Try.prog 14 #[.slice (some ⟨b, o, none⟩) 10 c] w (Ret w (decR (Sty.dec l))) := by
  have hcell : ∀ j, j < 10 → ∀ w', Below w.heap.size w w' → w'.cell? ⟨b, o + j, none⟩ = some (bv (l[j]?.getD 0)) := fun j hj w' hw => by
    refine (hw.cell (p := ⟨b, o + j, none⟩) (by show b < _; omega)).trans (hr j _ ?_)
    simp [bvs, hl, hj]
  have HC := Lib.hid hcell
  clear hcell hr
  go_enter Try.func14, Try.ntmps14
  go_wp2
  generalize hW : World.alloc (World.alloc w _) _ = W1
  have bR : W1.heap[w.heap.size]? = some (.cells #[.int .i64 0, .int .i64 0, .int .i64 0, .int .i64 0, .int .i64 0] 23) := by
    rw [← hW]; exact (Below.heap_alloc _ _ _ (by simp)).trans (World.alloc_heap_new w _)
  have bA : W1.heap[w.heap.size + 1]? = some (.cells (arr5 l 0) 38) := by
    rw [← hW]; have := World.alloc_heap_new (w.alloc (.cells #[.int .i64 0, .int .i64 0, .int .i64 0, .int .i64 0, .int .i64 0] 23)) (.cells #[.int .i64 0, .int .i64 0, .int .i64 0, .int .i64 0, .int .i64 0] 38); rw [World.size_alloc] at this; exact this
  have hB1 : Below w.heap.size w W1 := by rw [← hW]; exact (by repeat (first | (with_reducible exact Below.refl _ _) | (with_reducible refine bDrewN ?_ _) | (with_reducible refine Below.drew ?_) | (with_reducible refine Below.alloc ?_ ?_ _) | (with_reducible refine Below.setCell ?_ ?_ _) | (with_reducible assumption) | go_size))
  have hz1 : W1.heap.size = w.heap.size + 2 := by rw [← hW]; simp
  clear hW
  go_loopw [5] (fun i wr => ∃ k : Nat, k ≤ 5 ∧ i = .int .i64 k ∧ wr.heap[w.heap.size]? = some (.cells #[.int .i64 0, .int .i64 0, .int .i64 0, .int .i64 0, .int .i64 0] 23) ∧ wr.heap[w.heap.size + 1]? = some (.cells (arr5 l k) 38) ∧ Below w.heap.size w wr)
    (fun i _ => 5 - (intOf i).toNat)
  case atStart => exact ⟨0, by omega, rfl, bR, bA, hB1⟩
  case round =>
    obtain ⟨k, hk, rfl, hR, hA, hB⟩ := hrel
    by_cases hlt : k < 5
    · obtain ⟨m, hm⟩ : ∃ m, m = 2 * k := ⟨_, rfl⟩
      have h1 := HC.out m (by omega)
      have h2 := HC.out (m + 1) (by omega)
      have hnib : nib l k = (l[m]?.getD 0).toNat * 256 + (l[m + 1]?.getD 0).toNat := by unfold nib; rw [hm]
      have m1 : IntKind.i64.wrap (2 * (k : Int)) = (m : Int) := by rw [wrap_small _ (by omega) (by omega)]; omega
      have m2 : IntKind.i64.wrap ((m : Int) + 1) = (m : Int) + 1 := wrap_small _ (by omega) (by omega)
      have m3 : (0 : Int) ≤ (m : Int) := by omega
      have m4 : (m : Int) < 10 := by omega
      have m5 : (0 : Int) ≤ (m : Int) + 1 := by omega
      have m6 : (m : Int) + 1 < 10 := by omega
      have m7 : (0 : Int) ≤ (k : Int) := by omega
      have m8 : (k : Int) < 5 := by omega
      clear hm
      unfold bv at h1 h2
      have p1 := (l[m]?.getD 0).toNat_lt
      have p2 := (l[m + 1]?.getD 0).toNat_lt
      generalize (l[m]?.getD 0).toNat = P at *
      generalize (l[m + 1]?.getD 0).toNat = Q at *
      have HN := Lib.hid hnib
      clear hnib
      have e1 : IntKind.i64.wrap (P : Int) = P := wrap_small _ (by omega) (by omega)
      have e2 : IntKind.i64.wrap (Q : Int) = Q := wrap_small _ (by omega) (by omega)
      have e3 : IntKind.i64.wrap ((P : Int) * 256) = P * 256 := wrap_small _ (by omega) (by omega)
      have e4 : IntKind.i64.wrap ((P : Int) * 256 + Q) = P * 256 + Q := wrap_small _ (by omega) (by omega)
      have fA : wr.frozen? ⟨w.heap.size + 1, k, none⟩ = false := blk_frozen hA k
      obtain ⟨y, cA⟩ : ∃ y, wr.cell? ⟨w.heap.size + 1, k, none⟩ = some y := ⟨_, blk_cell hA (Array.getElem?_eq_getElem (by simp [arr5]; omega))⟩
      have hAB := Lib.hid (And.intro hR (And.intro hA hB))
      go_wp2
      go_region_held3 (Below w.heap.size w) (exact (by repeat (first | (with_reducible exact Below.refl _ _) | (with_reducible refine bDrewN ?_ _) | (with_reducible refine Below.drew ?_) | (with_reducible refine Below.alloc ?_ ?_ _) | (with_reducible refine Below.setCell ?_ ?_ _) | (with_reducible assumption) | go_size))) (fail)
      go_wp2
      go_roundw
      case rel =>
        obtain ⟨hR, hA, hB⟩ := hAB.out
        refine ⟨k + 1, by omega, by go_num, blk_far hR _ (by simp), ?_, (by repeat (first | (with_reducible exact Below.refl _ _) | (with_reducible refine bDrewN ?_ _) | (with_reducible refine Below.drew ?_) | (with_reducible refine Below.alloc ?_ ?_ _) | (with_reducible refine Below.setCell ?_ ?_ _) | (with_reducible assumption) | go_size))⟩
        have := blk_set (W := wr.drew) hA k (.int .i64 (nib l k))
        rw [arr5_set l hlt, HN.out] at this
        exact this
      case measure => simp [intOf]; omega
    · obtain rfl : k = 5 := by omega
      obtain ⟨s, hs⟩ : ∃ s, unS l = s := ⟨_, rfl⟩
      obtain ⟨x0, x1, x2, x3, x4⟩ := s
      have hA5 : arr5 l 5 = #[.int .i64 x0, .int .i64 x1, .int .i64 x2, .int .i64 x3, .int .i64 x4] := by
        simp only [unS, Sty.mk.injEq] at hs
        obtain ⟨rfl, rfl, rfl, rfl, rfl⟩ := hs
        rfl
      rw [hA5] at hA
      have hdec : Sty.dec l = if Sty.good ⟨x0, x1, x2, x3, x4⟩ = true then some ⟨x0, x1, x2, x3, x4⟩ else none := by
        unfold Sty.dec; rw [hs]; simp [hl]
      obtain ⟨t, ht⟩ : ∃ t, Sty.good ⟨x0, x1, x2, x3, x4⟩ = t := ⟨_, rfl⟩
      rw [ht] at hdec
      have HT := Lib.hid ht
      have HD := Lib.hid hdec
      clear ht hdec hs hA5
      have k0 := blk_cell hA (k := 0) rfl
      have k1 := blk_cell hA (k := 1) rfl
      have k2 := blk_cell hA (k := 2) rfl
      have k3 := blk_cell hA (k := 3) rfl
      have k4 := blk_cell hA (k := 4) rfl
      have hsz : w.heap.size + 1 < wr.heap.size := (Array.getElem?_eq_some_iff.1 hA).1
      go_wp2_with fail
      refine (rgood_eq HT _).mono ?_
      rintro e w3 ⟨rfl, hb3⟩
      obtain ⟨hc3, hf3⟩ := bReads hb3
      have hz3 := hb3.size
      simp only [World.size_alloc] at hz3
      have bS3 := bBlk hb3 (by simp) (heap_alloc_new wr (.cells #[.int .i64 x0, .int .i64 x1, .int .i64 x2, .int .i64 x3, .int .i64 x4] 23))
      have bR3 := bBlk hb3 (by simp; omega) ((Below.heap_alloc _ _ _ (by omega)).trans hR)
      have hB3 : Below w.heap.size w w3 := (hB.alloc (by omega) _).trans (hb3.mono (by simp; omega))
      have s0 := blk_cell bS3 (k := 0) rfl
      have s1 := blk_cell bS3 (k := 1) rfl
      have s2 := blk_cell bS3 (k := 2) rfl
      have s3 := blk_cell bS3 (k := 3) rfl
      have s4 := blk_cell bS3 (k := 4) rfl
      have r0 := blk_cell bR3 (k := 0) rfl
      have r1 := blk_cell bR3 (k := 1) rfl
      have r2 := blk_cell bR3 (k := 2) rfl
      have r3 := blk_cell bR3 (k := 3) rfl
      have r4 := blk_cell bR3 (k := 4) rfl
      have f0 := blk_frozen bR3 0
      have f1 := blk_frozen bR3 1
      have f2 := blk_frozen bR3 2
      have f3 := blk_frozen bR3 3
      have f4 := blk_frozen bR3 4
      clear bS3 hc3 hf3 hb3 hR hA k0 k1 k2 k3 k4 bR bA hB1 hB
      cases t
      · go_wp2
        generalize hW9 : World.setCell (World.setCell (World.setCell (World.setCell (World.setCell w3 _ _) _ _) _ _) _ _) _ _ = W9
        have b9 : W9.heap[w.heap.size]? = some (.cells #[.int .i64 0, .int .i64 0, .int .i64 0, .int .i64 0, .int .i64 0] 23) := by rw [← hW9]; exact blk_set (blk_set (blk_set (blk_set (blk_set bR3 0 _) 1 _) 2 _) 3 _) 4 _
        have hB9 : Below w.heap.size w W9 := by rw [← hW9]; exact (by repeat (first | (with_reducible exact Below.refl _ _) | (with_reducible refine bDrewN ?_ _) | (with_reducible refine Below.drew ?_) | (with_reducible refine Below.alloc ?_ ?_ _) | (with_reducible refine Below.setCell ?_ ?_ _) | (with_reducible assumption) | go_size))
        clear hW9
        have z0 := blk_cell b9 (k := 0) rfl
        have z1 := blk_cell b9 (k := 1) rfl
        have z2 := blk_cell b9 (k := 2) rfl
        have z3 := blk_cell b9 (k := 3) rfl
        have z4 := blk_cell b9 (k := 4) rfl
        (try simp only [Exit.inBlock, Exit.then])
        exact bodyPost_ret (by simp [results, Try.results14, go_sem, z0, z1, z2, z3, z4]; rfl) rfl (Ret.mk (by rw [HD.out]; try rfl) hB9)
      · go_wp2
        generalize hW9 : World.setCell (World.setCell (World.setCell (World.setCell (World.setCell w3 _ _) _ _) _ _) _ _) _ _ = W9
        have b9 : W9.heap[w.heap.size]? = some (.cells #[.int .i64 x0, .int .i64 x1, .int .i64 x2, .int .i64 x3, .int .i64 x4] 23) := by rw [← hW9]; exact blk_set (blk_set (blk_set (blk_set (blk_set bR3 0 _) 1 _) 2 _) 3 _) 4 _
        have hB9 : Below w.heap.size w W9 := by rw [← hW9]; exact (by repeat (first | (with_reducible exact Below.refl _ _) | (with_reducible refine bDrewN ?_ _) | (with_reducible refine Below.drew ?_) | (with_reducible refine Below.alloc ?_ ?_ _) | (with_reducible refine Below.setCell ?_ ?_ _) | (with_reducible assumption) | go_size))
        clear hW9
        have z0 := blk_cell b9 (k := 0) rfl
        have z1 := blk_cell b9 (k := 1) rfl
        have z2 := blk_cell b9 (k := 2) rfl
        have z3 := blk_cell b9 (k := 3) rfl
        have z4 := blk_cell b9 (k := 4) rfl
        (try simp only [Exit.inBlock, Exit.then])
        exact bodyPost_ret (by simp [results, Try.results14, go_sem, z0, z1, z2, z3, z4]; rfl) rfl (Ret.mk (by rw [HD.out]; try rfl) hB9)

/-- both, at any bytes -/
theorem sdec_any (A : Option Addr) (n c : Nat) (hc : n ≤ c) (l : List UInt8) (w : World) (h : Sl w w.heap.size 1 A n (bvs l)) :
    Calls Try.prog 13 #[.slice A n c] w (Ret w (decR (Sty.dec l))) := by
  have hl : l.length = n := by have := h.len; rw [bvs_len] at this; omega
  by_cases h10 : n = 10
  · subst h10
    obtain ⟨b, o, rfl, hb, hr⟩ := h.at_ (by omega)
    exact dec_ten b o c w.heap.size hc l hl w (Nat.le_refl _) hb hr
  · rw [dec_len (by omega)]
    exact dec_short A n c h10 w
theorem rdec_any (A : Option Addr) (n c : Nat) (hc : n ≤ c) (l : List UInt8) (w : World) (h : Sl w w.heap.size 1 A n (bvs l)) :
    Calls Try.prog 14 #[.slice A n c] w (Ret w (decR (Sty.dec l))) := by
  have hl : l.length = n := by have := h.len; rw [bvs_len] at this; omega
  by_cases h10 : n = 10
  · subst h10
    obtain ⟨b, o, rfl, hb, hr⟩ := h.at_ (by omega)
    exact rdec_ten b o c hc l hl w hb hr
  · rw [dec_len (by omega)]
    exact rdec_short A n c h10 w
/-- both, where the answer is known -/
theorem sdec_eq {A : Option Addr} {n c : Nat} (hc : n ≤ c) {l : List UInt8} {w : World} (h : Sl w w.heap.size 1 A n (bvs l)) {r : Option Sty} (hr : Sty.dec l = r) :
    Calls Try.prog 13 #[.slice A n c] w (Ret w (decR r)) := hr ▸ sdec_any A n c hc l w h
theorem rdec_eq {A : Option Addr} {n c : Nat} (hc : n ≤ c) {l : List UInt8} {w : World} (h : Sl w w.heap.size 1 A n (bvs l)) {r : Option Sty} (hr : Sty.dec l = r) :
    Calls Try.prog 14 #[.slice A n c] w (Ret w (decR r)) := hr ▸ rdec_any A n c hc l w h
end Go.Proofs.Ytjfkaebikmnnaaa
