/- The statements of layer 12: the walks. -/
import Derived.Test.YtjfkaebikmnnaaaStyWakes
namespace Go.Proofs.Ytjfkaebikmnnaaa
set_option linter.unusedSimpArgs false
set_option linter.unusedVariables false
open Go.RowKit Go.ChangeShapes Go.WideShapes Go.Sort

section
variable {H : Type} {enc : TypeId × Value → H} {P : Program} {w : World} {base : Nat}
/-- a struct of integers of one kind, by value -/
theorem open_nums {k : IntKind} {n : Nat} {t : TypeId} {fs : Array Field} {v : Value} {d : DataW H} {p : List MemPlace} (ht : P.underlying t = some (.struct fs)) (hC : P.cellsOf t = n)
    (hf : ∀ i, i < n → ∃ f, fs[i]? = some f ∧ f.offset = i ∧ P.underlying f.type = some (.int k) ∧ P.cellsOf f.type = 1)
    (hv : Value.okWide P w .any base t v) (h : DataW.Trod enc P w 0 (fun _ => true) true t v d p) : ∃ l : List Int, l.length = n ∧ v = .agg (l.map (Value.int k)).toArray ∧ ∀ x ∈ l, (Lit.int k x).wf = true := by
  obtain ⟨cs, rfl, hs⟩ := okWide_struct ht hv
  obtain ⟨fuel, hfu⟩ := h
  obtain ⟨xs, m, _, _, hlen, hxl, hx⟩ := DataW.trod_struct ht hfu
  simp only [Value.cells] at hlen hx
  obtain ⟨l, hl, hq⟩ := list_choose (q := fun i z => (cs.toList.drop (i * 1)).take 1 = [Value.int k z] ∧ (Lit.int k z).wf = true) n (fun i hi => by
    obtain ⟨f, h1, h2, h3, h4⟩ := hf i hi
    have := hx i f h1
    have hi' : i < xs.length := by rw [hxl]; exact (Array.getElem?_eq_some_iff.1 h1).1
    rw [h2, h4, List.getElem?_eq_getElem hi'] at this
    obtain ⟨z, hz, hw⟩ := dec_int h3 _ _ _ this
    exact ⟨z, by rw [Nat.mul_one]; exact hz, hw⟩)
  refine ⟨l, hl, ?_, fun x hx => ?_⟩
  · have := parts_flatMap (fun z => [Value.int k z]) 1 l cs.toList (by rw [hlen, hC, hl]; omega) (fun i x hi => (hq i x hi).1)
    rw [map_flat] at this
    rw [← this]
  · obtain ⟨i, hi, rfl⟩ := List.getElem_of_mem hx
    exact (hq i _ (List.getElem?_eq_getElem hi)).2
end
theorem five {α : Type} {l : List α} (h : l.length = 5) : ∃ a b c d e, l = [a, b, c, d, e] := by
  match l, h with
  | [a, b, c, d, e], _ => exact ⟨a, b, c, d, e, rfl⟩
theorem open_style {H : Type} {enc : TypeId × Value → H} {W : World} {base : Nat} {v : Value} {d : DataW H} {p : List MemPlace}
    (k : Value.okWide Try.prog W .any base 23 v) (h : DataW.Trod enc Try.prog W 0 (fun _ => true) true 23 v d p) :
    ∃ s : Sty, v = s.val ∧ ∀ x ∈ s.nums, -9223372036854775808 ≤ x ∧ x ≤ 9223372036854775807 := by
  obtain ⟨l, hl, rfl, hw⟩ := open_nums (k := .i64) (n := 5) Try.underlying23 (by kernel_rfl) (fun i hi => by
    match i, hi with
    | 0, _ | 1, _ | 2, _ | 3, _ | 4, _ => exact ⟨_, rfl, rfl, Try.underlying3, by kernel_rfl⟩) k h
  obtain ⟨a, b, c, d, e, rfl⟩ := five hl
  exact ⟨⟨a, b, c, d, e⟩, rfl, fun x hx => wf64 (hw x hx)⟩

def Sty.encB (s : Sty) : List UInt8 := if s.good = true then s.enc else []
def Sty.code (s : Sty) : Int := if s.good = true then 0 else 11
def EncAny (s : Sty) (w : World) (e : Ending) (w' : World) : Prop :=
  ∃ A n c, e = .returned (.tuple #[.slice A n c, .int .i64 s.code]) ∧ n ≤ c ∧ n ≤ 10 ∧ Sl w' w'.heap.size 1 A n (bvs s.encB) ∧ Below w.heap.size w w'
theorem encAny_yes {s : Sty} (hg : s.good = true) {w : World} {e : Ending} {w' : World} (h : EncPost s w e w') : EncAny s w e w' := by
  obtain ⟨A, c, rfl, hown, hb⟩ := h
  have hsl := Sl.of_own hown
  obtain ⟨A', c', he, hc⟩ := own_form hown
  injection he with e1 e2 e3
  subst e1 e3
  refine ⟨A, 10, c, by rw [Sty.code, if_pos hg], hc.1, Nat.le_refl _, ?_, hb⟩
  rw [Sty.encB, if_pos hg]
  exact hsl
theorem encAny_no {s : Sty} (hg : s.good = false) {w : World} {e : Ending} {w' : World} (h : Ret w (.tuple #[.slice none 0 0, .int .i64 11]) e w') : EncAny s w e w' := by
  obtain ⟨rfl, hb⟩ := h
  refine ⟨none, 0, 0, by rw [Sty.code, if_neg (by simp [hg])], Nat.le_refl _, by omega, ?_, hb⟩
  rw [Sty.encB, if_neg (by simp [hg])]
  exact Sl.nil
theorem enc_any (s : Sty) (w : World) : Calls Try.prog 11 #[s.val] w (EncAny s w) := by
  cases hg : s.good
  · exact (enc_no s hg w).mono fun _ _ h => encAny_no hg h
  · exact (enc_yes s hg w).mono fun _ _ h => encAny_yes hg h
theorem renc_any (s : Sty) (w : World) : Calls Try.prog 12 #[s.val] w (EncAny s w) := by
  cases hg : s.good
  · exact (renc_no s hg w).mono fun _ _ h => encAny_no hg h
  · exact (renc_yes s hg w).mono fun _ _ h => encAny_yes hg h
theorem bytes_same {A B : Option Addr} {n m c c' BA BB : Nat} {xs : List UInt8} {w : World} (h1 : Sl w BA 1 A n (bvs xs)) (h2 : Sl w BB 1 B m (bvs xs)) :
    Calls Try.prog 17 #[.slice A n c, .slice B m c'] w (Ret w (.bool true)) :=
  (bytes_any A B n m c c' BA BB xs xs w h1 h2).mono fun e w' ⟨he, hw⟩ => ⟨by rw [he]; simp, hw ▸ Below.refl _ _⟩
theorem decR_eq (o : Option Sty) : ∃ a b c d f k : Int, decR o = .tuple #[.agg #[.int .i64 a, .int .i64 b, .int .i64 c, .int .i64 d, .int .i64 f], .int .i64 k] ∧ (∀ s, o = some s → k = 0 ∧ s = ⟨a, b, c, d, f⟩) ∧ (o = none → k = 11 ∧ (⟨a, b, c, d, f⟩ : Sty) = ⟨0, 0, 0, 0, 0⟩) := by
  cases o with
  | none => exact ⟨0, 0, 0, 0, 0, 11, rfl, by simp, by simp⟩
  | some s => exact ⟨s.w, s.h, s.t, s.c, s.i, 0, rfl, by simp, by simp⟩
/-- '[]byte{}' owns nothing -/
theorem own_empty (w : World) (e : TypeId) : (w.alloc (.cells #[] e)).ownsRow w.heap.size e 1 (.slice (some ⟨w.heap.size, 0, none⟩) 0 0) 0 [] :=
  ⟨rfl, .inr ⟨w.heap.size, 0, #[], rfl, Nat.le_refl _, heap_alloc_new _ _, Nat.le_refl _, by simp [maxLen], rfl, rfl⟩⟩

set_option maxHeartbeats 2000000 in
set_option maxRecDepth 100000 in
theorem styleCodes_core (s : Sty) (A : Option Addr) (n c : Nat) (hc : n ≤ c) (hm : c ≤ maxLen) (l : List UInt8) (w : World) (h : Sl w w.heap.size 1 A n (bvs l)) :
    Calls Try.prog 3 #[s.val, .slice A n c] w (Ret w (.bool true)) := by
  have hl : l.length = n := by have := h.len; rw [bvs_len] at this; omega
  obtain ⟨a1, a2, a3, a4, a5⟩ := s
  by_cases hn : 300 < n
  · simp only [Sty.val]
    have hn' : (300 : Int) < n := by omega
    go_enter Try.func3, Try.ntmps3
    go_wp2_with fail
    refine (wakes_any _).mono ?_
    rintro e w1 ⟨rfl, hb⟩
    go_wp2
    go_ret
    exact Ret.mk rfl (((Below.refl _ w).alloc (Nat.le_refl _) _).trans (hb.mono (by simp)))
  · have hn' : ¬ (300 : Int) < n := by omega
    obtain ⟨t, ht⟩ : ∃ t, Sty.good ⟨a1, a2, a3, a4, a5⟩ = t := ⟨_, rfl⟩
    obtain ⟨x1, x2, x3, x4, x5, k, hk, -, -⟩ := decR_eq (Sty.dec l)
    have HK := Lib.hid hk
    have HT := Lib.hid ht
    have he := enc_any ⟨a1, a2, a3, a4, a5⟩
    have hre := renc_any ⟨a1, a2, a3, a4, a5⟩
    have HE := Lib.hid (And.intro he hre)
    clear hk ht he hre
    simp only [Sty.val] at *
    go_enter Try.func3, Try.ntmps3
    go_wp2_with fail
    refine (HE.out.1 _).mono ?_
    rintro e w1 ⟨A1, n1, c1, rfl, hc1, hn1, hs1, hb1⟩
    have hz1 := hb1.size
    simp only [World.size_alloc] at hz1
    have bS1 := bBlk hb1 (by simp) (heap_alloc_new w (.cells #[.int .i64 a1, .int .i64 a2, .int .i64 a3, .int .i64 a4, .int .i64 a5] 23))
    have r0 := blk_cell bS1 (k := 0) rfl
    have r1 := blk_cell bS1 (k := 1) rfl
    have r2 := blk_cell bS1 (k := 2) rfl
    have r3 := blk_cell bS1 (k := 3) rfl
    have r4 := blk_cell bS1 (k := 4) rfl
    have hB1 : Below w.heap.size w w1 := ((Below.refl _ w).alloc (Nat.le_refl _) _).trans (hb1.mono (by simp))
    clear hb1
    go_wp2_with fail
    refine (HE.out.2 _).mono ?_
    rintro e w2 ⟨A2, n2, c2, rfl, hc2, hn2, hs2, hb2⟩
    have hz2 := hb2.size
    have bS2 := bBlk hb2 (by omega) bS1
    have hs1' := hs1.next hb2
    have h2 : Sl w2 w2.heap.size 1 A n (bvs l) := ((h.below hB1).below (hb2.mono (by omega))).mono (by omega)
    have hB2 : Below w.heap.size w w2 := hB1.trans (hb2.mono (by omega))
    clear r0 r1 r2 r3 r4 bS1 hb2 hs1 hB1
    go_wp2_with (at_builtin; refine wpList_app _ rfl (.tmp 28) (.tmp 29) 24 rfl Try.underlying24 elemU8 rfl (own_empty _ _) rfl ((h2.below ((Below.refl _ _).alloc (Nat.le_refl _) _))) (oneCell_bvs _) (by simp only [maxLen] at *; omega) (by simp only [maxLen] at *; omega) (by simp) ?_; intro A3 c3 w3 hown3 hg3 hb3 hat3)
    simp only [Nat.zero_add, List.nil_append] at hown3
    have hs3 := Sl.of_own hown3
    obtain ⟨A3', c3', he3, hc3⟩ := own_form hown3
    injection he3 with e1 e2 e3
    subst e1 e3
    have hz3 : w2.heap.size ≤ w3.heap.size := by have := hb3.size; simp at this; omega
    have hb23 : Below w2.heap.size w2 w3 := ((Below.refl _ w2).alloc (Nat.le_refl _) _).trans hb3
    have bS3 := bBlk hb23 (by omega) bS2
    have h3 := (h2.below hb23).mono hz3
    have hs13 := (hs1'.below hb23).mono hz3
    have hs23 := (hs2.below hb23).mono hz3
    have hB3 : Below w.heap.size w w3 := hB2.trans (hb23.mono (by omega))
    clear hb3 hb23 hg3 hat3 hown3 h2 hs1' hs2 bS2 hB2
    have hd := sdec_any A3 n c3 hc3.1 l w3 hs3
    rw [HK.out] at hd
    refine hd.mono ?_
    rintro e w4 ⟨rfl, hb4⟩
    have hz4 := hb4.size
    have bS4 := bBlk hb4 (by omega) bS3
    have h4 := h3.next hb4
    have hs14 := hs13.next hb4
    have hs24 := hs23.next hb4
    have hB4 : Below w.heap.size w w4 := hB3.trans (hb4.mono (by omega))
    clear hd hb4 h3 hs13 hs23 bS3 hB3 hs3
    go_wp2_with fail
    generalize hW5 : w4.alloc _ = W5
    have bT5 : W5.heap[w4.heap.size]? = some (.cells #[.int .i64 x1, .int .i64 x2, .int .i64 x3, .int .i64 x4, .int .i64 x5] 23) := by rw [← hW5]; exact heap_alloc_new _ _
    have hb5 : Below w4.heap.size w4 W5 := by rw [← hW5]; exact (by repeat (first | (with_reducible exact Below.refl _ _) | (with_reducible refine bDrewN ?_ _) | (with_reducible refine Below.drew ?_) | (with_reducible refine Below.alloc ?_ ?_ _) | (with_reducible refine Below.setCell ?_ ?_ _) | (with_reducible assumption) | go_size))
    have hz5 : w4.heap.size < W5.heap.size := by rw [← hW5]; simp
    clear hW5
    have h5 := h4.next hb5
    have hs15 := hs14.next hb5
    have hs25 := hs24.next hb5
    have bS5 := bBlk hb5 (by omega) bS4
    have hB5 : Below w.heap.size w W5 := hB4.trans (hb5.mono (by omega))
    clear hb5 h4 hs14 hs24 bS4 hB4
    have hd := rdec_any A n c hc l W5 h5
    rw [HK.out] at hd
    refine hd.mono ?_
    rintro e w6 ⟨rfl, hb6⟩
    have hz6 := hb6.size
    have bS6 := bBlk hb6 (by omega) bS5
    have bT6 := bBlk hb6 (by omega) bT5
    have hs16 := hs15.next hb6
    have hs26 := hs25.next hb6
    have hB6 : Below w.heap.size w w6 := hB5.trans (hb6.mono (by omega))
    clear hd hb6 h5 hs15 hs25 bS5 bT5 hB5
    go_wp2_with fail
    generalize hW7 : w6.alloc _ = W7
    have bU7 : W7.heap[w6.heap.size]? = some (.cells #[.int .i64 x1, .int .i64 x2, .int .i64 x3, .int .i64 x4, .int .i64 x5] 23) := by rw [← hW7]; exact heap_alloc_new _ _
    have hb7 : Below w6.heap.size w6 W7 := by rw [← hW7]; exact (by repeat (first | (with_reducible exact Below.refl _ _) | (with_reducible refine bDrewN ?_ _) | (with_reducible refine Below.drew ?_) | (with_reducible refine Below.alloc ?_ ?_ _) | (with_reducible refine Below.setCell ?_ ?_ _) | (with_reducible assumption) | go_size))
    have hz7 : w6.heap.size < W7.heap.size := by rw [← hW7]; simp
    clear hW7
    have hs17 := hs16.next hb7
    have hs27 := hs26.next hb7
    have bS7 := bBlk hb7 (by omega) bS6
    have bT7 := bBlk hb7 (by omega) bT6
    have hB7 : Below w.heap.size w W7 := hB6.trans (hb7.mono (by omega))
    clear hb7 hs16 hs26 bS6 bT6 hB6
    have s0 := cell_regrown (blk_cell bS7 (k := 0) rfl)
    have t0 := cell_regrown (blk_cell bT7 (k := 0) rfl)
    have u0 := cell_regrown (blk_cell bU7 (k := 0) rfl)
    have s1 := cell_regrown (blk_cell bS7 (k := 1) rfl)
    have t1 := cell_regrown (blk_cell bT7 (k := 1) rfl)
    have u1 := cell_regrown (blk_cell bU7 (k := 1) rfl)
    have s2 := cell_regrown (blk_cell bS7 (k := 2) rfl)
    have t2 := cell_regrown (blk_cell bT7 (k := 2) rfl)
    have u2 := cell_regrown (blk_cell bU7 (k := 2) rfl)
    have s3 := cell_regrown (blk_cell bS7 (k := 3) rfl)
    have t3 := cell_regrown (blk_cell bT7 (k := 3) rfl)
    have u3 := cell_regrown (blk_cell bU7 (k := 3) rfl)
    have s4 := cell_regrown (blk_cell bS7 (k := 4) rfl)
    have t4 := cell_regrown (blk_cell bT7 (k := 4) rfl)
    have u4 := cell_regrown (blk_cell bU7 (k := 4) rfl)
    clear bS7 bT7 bU7
    have cb : ∀ d os, Calls Try.prog 17 #[.slice A1 n1 c1, .slice A2 n2 c2] (grow (redrawn W7 d) os) (Ret (grow (redrawn W7 d) os) (.bool true)) := fun d os =>
      bytes_same (hs17.below (below_regrown W7 d os)) (hs27.below (below_regrown W7 d os))
    have HC := Lib.hid cb
    clear cb hs17 hs27
    refine wp_region_quiet_below (by kernel_rfl) (by kernel_rfl) ?_
    repeat (quiet_step (first | (go_at_call 15; exact Calls.regrown_of (good_eq HT _)) | (go_at_call 16; exact Calls.regrown_of (rgood_eq HT _)) | (go_at_call 17; exact Calls.regrown_of (HC.out _ _)) | (go_at_call 10; exact Calls.regrown_of (wakes_any _))))
    refine wpQuiet_nil ?_
    intro _ hw'
    obtain ⟨pq, rfl⟩ := hw'
    go_wp2
    go_ret
    exact Ret.mk rfl (hB7.trans ((below_regrown W7 pq.d pq.os).mono (by omega)))

theorem styleCodes_walk {H : Type} {enc : TypeId × Value → H} {W : World} {base : Nat} {v0 v1 : Value} {d0 d1 : DataW H} {p0 p1 : List MemPlace}
    (k0 : Value.okWide Try.prog W .any base 23 v0) (h0 : DataW.Trod enc Try.prog W 0 (fun _ => true) true 23 v0 d0 p0)
    (k1 : Value.okWide Try.prog W .any base 24 v1) (h1 : DataW.Trod enc Try.prog W 0 (fun _ => true) true 24 v1 d1 p1)
    : Calls Try.prog 3 #[v0, v1] W fun e W' => e = .returned (.bool true) ∧ Below W.heap.size W W' := by
  obtain ⟨s, rfl, -⟩ := open_style k0 h0
  obtain ⟨A, n, c, l, rfl, hl, hn, hc, -, hsl⟩ := open_bytes_sl Try.underlying24 Try.underlying5 (by kernel_rfl) k1 h1
  exact styleCodes_core s A n c hn hc l W hsl
end Go.Proofs.Ytjfkaebikmnnaaa
