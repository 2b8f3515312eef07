/- The statements of layer 16: MeasureTells. -/
import Derived.Test.YtaifbbmobhfjcaaMsrLine2
import Derived.Test.YtaifbbmobhfjcaaMsrKeep
namespace Go.Proofs.Ytaifbbmobhfjcaa
set_option linter.unusedSimpArgs false
set_option linter.unusedVariables false
open Go.RowKit Go.ChangeShapes Go.WideShapes

set_option maxHeartbeats 2000000 in
theorem wakes16_any (w : World) : Calls Try.prog 21 #[] w (Ret w (.bool true)) := by
  go_enter Try.func21, Try.ntmps21
  go_wp2_with fail
  generalize hW : w.alloc _ = W
  have b5 : W.heap[w.heap.size]? = some (.cells (encs L5).toArray 51) := by rw [← hW]; exact heap_alloc_new _ _
  have hB : Below w.heap.size w W := by rw [← hW]; exact (by repeat (first | (with_reducible exact Below.refl _ _) | (with_reducible refine bDrewN ?_ _) | (with_reducible refine Below.drew ?_) | (with_reducible refine Below.alloc ?_ ?_ _) | (with_reducible refine Below.setCell ?_ ?_ _) | (with_reducible assumption) | go_size))
  have hz : w.heap.size < W.heap.size := by rw [← hW]; simp
  clear hW
  have h5 : Sl W W.heap.size 6 (some ⟨w.heap.size, 0, none⟩) 5 (encs L5) := by
    have := Sl.new (sz := 6) (n := 5) b5 rfl
    simpa using this
  clear b5
  refine (breaks_any (by omega) h5).mono ?_
  rintro e w1 ⟨A1, c1, rfl, hown1, hb1⟩
  rw [L5_brks] at hown1
  simp only [L5_brks, List.length_cons, List.length_nil, Nat.reduceAdd, Nat.zero_add] at *
  have hs1 := Sl.of_own hown1
  have h51 := h5.next hb1
  have hz1 := hb1.size
  have hB1 := hB.trans (hb1.mono (by omega))
  clear hown1 h5 hB hb1
  go_wp2_with fail
  generalize hW2 : w1.alloc _ = W2
  have hb2 : Below w1.heap.size w1 W2 := by rw [← hW2]; exact (by repeat (first | (with_reducible exact Below.refl _ _) | (with_reducible refine bDrewN ?_ _) | (with_reducible refine Below.drew ?_) | (with_reducible refine Below.alloc ?_ ?_ _) | (with_reducible refine Below.setCell ?_ ?_ _) | (with_reducible assumption) | go_size))
  have hs2 : Sl W2 W2.heap.size 1 (some ⟨w1.heap.size, 0, none⟩) 3 (ints [1, 3, 5]) := by rw [← hW2]; exact Sl.new (n := 3) (cs := (ints [1, 3, 5]).toArray) (heap_alloc_new _ _) rfl
  clear hW2
  have h52 := h51.next hb2
  have hz2 := hb2.size
  have hB2 := hB1.trans (hb2.mono (by omega))
  refine (ints_same (by decide) (hs1.next hb2) hs2).mono ?_
  rintro e w3 ⟨rfl, hb3⟩
  have h53 := h52.next hb3
  have hz3 := hb3.size
  have hB3 := hB2.trans (hb3.mono (by omega))
  clear hs1 hs2 h52 h51 hb2 hb3 hB1 hB2
  have hf := first_any (c := 5) 1 (by omega) h53
  rw [L5_first1] at hf
  have hf2 := first_any (c := 5) 4 (by omega) h53
  rw [L5_first4] at hf2
  go_wp2_with fail
  refine hf.mono ?_
  rintro e w' ⟨rfl, rfl⟩
  go_wp2_with fail
  refine hf2.mono ?_
  rintro e w' ⟨rfl, rfl⟩
  clear hf hf2
  have hl := line_any (c := 5) (-1) 3 (by omega) h53
  rw [L5_line1] at hl
  go_wp2_with fail
  refine hl.mono ?_
  clear hl
  rintro e w4 ⟨rfl, hb4⟩
  have h54 := h53.next hb4
  have hz4 := hb4.size
  have hB4 := hB3.trans (hb4.mono (by omega))
  clear h53 hb4 hB3
  simp only [Sm.cells]
  have hl := line_any (c := 5) 1 5 (by omega) h54
  rw [L5_line2] at hl
  go_wp2_with fail
  refine hl.mono ?_
  clear hl
  rintro e w5 ⟨rfl, hb5⟩
  have h55 := h54.next hb5
  have hz5 := hb5.size
  have hB5 := hB4.trans (hb5.mono (by omega))
  clear h54 hb5 hB4
  simp only [Sm.cells]
  have hl := line_any (c := 5) 1 2 (by omega) h55
  rw [L5_line3] at hl
  go_wp2_with fail
  refine hl.mono ?_
  clear hl
  rintro e w6 ⟨rfl, hb6⟩
  simp only [Sm.cells]
  go_wp2
  go_ret
  exact Ret.mk rfl (hB5.trans (hb6.mono (by omega)))

theorem elemItem : Elem Try.prog 51 6 56 := elem_of (z := .agg #[.int .i64 0, .int .i64 0, .int .i64 0, .int .i64 0, .int .i64 0, .string ⟨#[]⟩]) (by kernel_rfl) rfl (by omega)
theorem own_none {w : World} {e : TypeId} {size g base : Nat} (hg : g = w.heap.size) (hb : base ≤ g) : (w.alloc (.cells #[] e)).ownsRow base e size (.slice (some ⟨g, 0, none⟩) 0 0) 0 [] :=
  ⟨by simp, .inr ⟨g, 0, #[], rfl, hb, by rw [hg]; exact heap_alloc_new _ _, Nat.le_refl _, by simp [maxLen], by simp, by simp⟩⟩
theorem oneCell_encs (l : List It) : ∀ u ∈ encs l, u.oneCell' = true := by
  intro u hu
  simp only [encs, List.mem_flatMap, It.enc] at hu
  obtain ⟨x, _, hx⟩ := hu
  simp only [List.mem_cons, List.not_mem_nil, or_false] at hx
  rcases hx with rfl | rfl | rfl | rfl | rfl | rfl <;> rfl

set_option maxHeartbeats 4000000 in
set_option maxRecDepth 100000 in
theorem measureTells_core {A : Option Addr} {n c : Nat} {l : List It} (hc : n ≤ c) (hm : c ≤ maxLen) (from_ to : Int) {w : World} (h : Sl w w.heap.size 6 A n (encs l)) :
    Calls Try.prog 6 #[.slice A n c, .int .i64 from_, .int .i64 to] w (Ret w (.bool true)) := by
  go_enter Try.func6, Try.ntmps6
  go_wp2_with fail
  refine (fair_any (by omega) h).mono ?_
  rintro e w' ⟨⟨t, rfl, ht⟩, rfl⟩
  cases t
  · go_wp2_with fail
    refine (wakes16_any _).mono ?_
    rintro e w1 ⟨rfl, hb⟩
    go_wp2
    go_ret
    exact Ret.mk rfl hb
  · have h700 : n ≤ 700 := ht rfl
    clear ht
    go_wp2_with (at_builtin; refine wpList_app _ rfl (.tmp 14) (.tmp 15) 36 rfl Try.underlying36 elemItem rfl (own_none rfl (Nat.le_refl _)) rfl (h.below ((Below.refl _ _).alloc (Nat.le_refl _) _)) (oneCell_encs _) (by simp only [maxLen] at *; omega) (by omega) (by simp) ?_; intro A3 c3 w3 hown3 hg3 hb3 hat3)
    simp only [Nat.zero_add, List.nil_append] at hown3
    have hs3 := Sl.of_own hown3
    have hz3 : w.heap.size ≤ w3.heap.size := by have := hb3.size; simp at this; omega
    have hB3 : Below w.heap.size w w3 := ((Below.refl _ w).alloc (Nat.le_refl _) _).trans hb3
    have h3 := (h.below hB3).mono hz3
    clear hown3 hg3 hb3 hat3
    refine (line_any from_ to (by omega) hs3).mono ?_
    rintro e w4 ⟨rfl, hb4⟩
    have hz4 := hb4.size
    have hs4 := hs3.next hb4
    have h4 := h3.next hb4
    have hB4 := hB3.trans (hb4.mono (by omega))
    have hr := rline_any (c := c) from_ to (by omega) h4
    clear hs3 h3 hB3 hb4
    generalize line l from_ to = S at *
    obtain ⟨sw, sy, sz⟩ := S
    simp only [Sm.cells] at *
    go_wp2_with fail
    refine hr.mono ?_
    clear hr
    rintro e w5 ⟨rfl, hb5⟩
    have hz5 := hb5.size
    have hs5 := hs4.next hb5
    have h5 := h4.next hb5
    have hB5 := hB4.trans (hb5.mono (by omega))
    clear hs4 h4 hB4 hb5
    go_wp2_with fail
    generalize hW : World.alloc (World.alloc w5 _) _ = W6
    have b1 : W6.heap[w5.heap.size]? = some (.cells #[.int .i64 sw, .int .i64 sy, .int .i64 sz] 39) := by rw [← hW]; exact (Below.heap_alloc _ _ _ (by simp)).trans (heap_alloc_new _ _)
    have b2 : W6.heap[w5.heap.size + 1]? = some (.cells #[.int .i64 sw, .int .i64 sy, .int .i64 sz] 41) := by rw [← hW]; exact heap_alloc_new2 _ _ _
    have hb6 : Below w5.heap.size w5 W6 := by rw [← hW]; exact ((Below.refl _ _).alloc (Nat.le_refl _) _).alloc (by simp) _
    have hz6 : w5.heap.size + 2 ≤ W6.heap.size := by rw [← hW]; simp
    clear hW
    have hs6 := hs5.next hb6
    have h6 := h5.next hb6
    have hB6 := hB5.trans (hb6.mono (by omega))
    clear hs5 h5 hB5 hb6
    refine (breaks_any (by omega) hs6).mono ?_
    rintro e w7 ⟨A7, c7, rfl, hown7, hb7⟩
    have hz7 := hb7.size
    have hs7 := hs6.next hb7
    have h7 := h6.next hb7
    have hB7 := hB6.trans (hb7.mono (by omega))
    have b17 := bBlk hb7 (by omega) b1
    have b27 := bBlk hb7 (by omega) b2
    have ho7 := Sl.of_own hown7
    clear hs6 h6 hB6 hb7 b1 b2 hown7
    go_wp2_with fail
    refine (rbreaks_any (by omega) h7).mono ?_
    rintro e w8 ⟨A8, c8, rfl, hown8, hb8⟩
    have hz8 := hb8.size
    have hs8 := hs7.next hb8
    have h8 := h7.next hb8
    have hB8 := hB7.trans (hb8.mono (by omega))
    have b18 := bBlk hb8 (by omega) b17
    have b28 := bBlk hb8 (by omega) b27
    have ho8 := ho7.next hb8
    have hp8 := Sl.of_own hown8
    clear hs7 h7 hB7 hb8 b17 b27 hown8 ho7
    have hbl : (brks l).length ≤ maxLen := by
      have e1 := brks_len l
      have e2 := brksTo_len l l.length
      have e3 := its_len h
      simp only [maxLen]; omega
    go_wp2_with fail
    refine (ints_same hbl ho8 hp8).mono ?_
    rintro e w9 ⟨rfl, hb9⟩
    have hz9 := hb9.size
    have hs9 := hs8.next hb9
    have h9 := h8.next hb9
    have hB9 := hB8.trans (hb9.mono (by omega))
    have b19 := bBlk hb9 (by omega) b18
    have b29 := bBlk hb9 (by omega) b28
    clear hs8 h8 hB8 hb9 b18 b28 ho8 hp8 hbl
    have k0 := blk_cell b19 (k := 0) rfl
    have k1 := blk_cell b19 (k := 1) rfl
    have k2 := blk_cell b19 (k := 2) rfl
    have m0 := blk_cell b29 (k := 0) rfl
    have m1 := blk_cell b29 (k := 1) rfl
    have m2 := blk_cell b29 (k := 2) rfl
    go_wp2_with fail
    refine (first_any from_ (by omega) hs9).mono ?_
    rintro e w' ⟨rfl, rfl⟩
    go_wp2_with fail
    refine (rfirst_any from_ (by omega) h9).mono ?_
    rintro e w' ⟨rfl, rfl⟩
    go_wp2_with fail
    refine (items_same (by simp only [maxLen]; omega) hs9 h9).mono ?_
    rintro e w10 ⟨rfl, hb10⟩
    have hz10 := hb10.size
    go_wp2_with fail
    refine (wakes16_any _).mono ?_
    rintro e w11 ⟨rfl, hb11⟩
    go_wp2
    go_ret
    exact Ret.mk rfl (hB9.trans ((hb10.mono (by omega)).trans (hb11.mono (by omega))))

set_option maxRecDepth 100000 in
theorem open_items {H : Type} {enc : TypeId × Value → H} {W : World} {base : Nat} {v : Value} {d : DataW H} {p : List MemPlace}
    (k : Value.okWide Try.prog W .any base 36 v) (h : DataW.Trod enc Try.prog W 0 (fun _ => true) true 36 v d p) :
    ∃ A n c, ∃ l : List It, v = .slice A n c ∧ l.length = n ∧ n ≤ c ∧ c ≤ maxLen ∧ (A = none → c = 0) ∧ Sl W W.heap.size 6 A n (encs l) := by
  obtain ⟨A, n, c, l, h1, h2, h3, h4, h5, h6, -⟩ := open_slA (encA := It.enc) (ok := fun a : It => -9223372036854775808 ≤ a.kind ∧ a.kind ≤ 9223372036854775807 ∧ a.text.size ≤ maxLen) Try.underlying36 (sz := 6) (by kernel_rfl) (by omega) It.enc_len
    (fun fuel cs x hx => dec_item Try.underlying51 (by kernel_rfl) (fun i hi => by
      match i, hi with
      | 0, _ | 1, _ | 2, _ | 3, _ | 4, _ => exact ⟨_, rfl, rfl, Try.underlying3, by kernel_rfl⟩) ⟨_, rfl, rfl, Try.underlying9, by kernel_rfl⟩ fuel cs x hx) k h
  exact ⟨A, n, c, l, h1, h2, h3, h4, h5, h6⟩

set_option maxRecDepth 100000 in
theorem measureTells_walk {H : Type} {enc : TypeId × Value → H} {W : World} {base : Nat} {v0 v1 v2 : Value} {d0 d1 d2 : DataW H} {p0 p1 p2 : List MemPlace}
    (k0 : Value.okWide Try.prog W .any base 36 v0) (h0 : DataW.Trod enc Try.prog W 0 (fun _ => true) true 36 v0 d0 p0)
    (k1 : Value.okWide Try.prog W .any base 3 v1) (h1 : DataW.Trod enc Try.prog W 0 (fun _ => true) true 3 v1 d1 p1)
    (k2 : Value.okWide Try.prog W .any base 3 v2) (h2 : DataW.Trod enc Try.prog W 0 (fun _ => true) true 3 v2 d2 p2)
    : Calls Try.prog 6 #[v0, v1, v2] W fun e W' => e = .returned (.bool true) ∧ Below W.heap.size W W' := by
  obtain ⟨A, n, c, l, rfl, hl, hn, hc, -, hsl⟩ := open_items k0 h0
  obtain ⟨a, rfl, -, -, -⟩ := open_int Try.underlying3 k1 h1
  obtain ⟨b, rfl, -, -, -⟩ := open_int Try.underlying3 k2 h2
  exact measureTells_core hn hc a b hsl
end Go.Proofs.Ytaifbbmobhfjcaa
