/- The walk over ObjectCodes. -/
import Derived.Test.YthmjkgpfnpdddaaObjWakes
import Derived.Test.YthmjkgpfnpdddaaObjRBody
namespace Go.Proofs.Ythmjkgpfnpdddaa
set_option linter.unusedSimpArgs false
set_option linter.unusedVariables false
open Go.RowKit Go.ChangeShapes Go.WideShapes Go.Sort

theorem big_codes {a : Int} {A A' : Option Addr} {n c m c' : Nat} (w : World) (h : 2000 < n ∨ (¬ 2000 < n ∧ 20 < m)) : Calls Try.prog 3 #[.int .i64 a, .slice A n c, .slice A' m c'] w (Ret w (.bool true)) := by
  go_enter Try.func3, Try.ntmps3
  rcases h with h | ⟨h, h'⟩
  all_goals
    go_wp2_with (first
      | (go_at_call 13; refine Calls.mono (wakes03_any _) ?_; rintro e W3 ⟨rfl, hb3⟩)
      | fail)
    go_ret
    exact Ret.mk rfl hb3
theorem bytes_eqC {A B : Option Addr} {n m c c' BA BB : Nat} {xs : List UInt8} (w : World) (h1 : Sl w BA 1 A n (bvs xs)) (h2 : Sl w BB 1 B m (bvs xs)) :
    Calls Try.prog 19 #[.slice A n c, .slice B m c'] w fun e w' => e = .returned (.bool true) ∧ w = w' :=
  (bytes_any A B n m c c' BA BB xs xs w h1 h2).mono fun e w' ⟨h, k⟩ => ⟨by rw [h, decide_eq_true rfl], k⟩
section
variable {H : Type} {enc : TypeId × Value → H} {w : World}
open Go.Deep
/-- an array's cells, each part read by 'dec' -/
theorem dec_arr {P : Program} {α : Type} {encA : α → List Value} {ok : α → Prop} {sz n : Nat} {t e : TypeId} (ht : P.underlying t = some (.array n e)) (he : P.cellsOf e = sz) (hC : P.cellsOf t = n * sz)
    (hdec : ∀ fuel cs x, DataW.trod enc P w 0 (fun _ => true) true fuel e cs = some x → ∃ a, cs = encA a ∧ ok a) (fuel : Nat) (cs : List Value) (x : DataW H × List MemPlace) (h : DataW.trod enc P w 0 (fun _ => true) true fuel t cs = some x) :
    ∃ l : List α, l.length = n ∧ cs = l.flatMap encA ∧ ∀ x ∈ l, ok x := by
  obtain ⟨xs, m, _, _, hlen, hxl, hx⟩ := DataW.trod_array ht h
  obtain ⟨l, hl, hq⟩ := list_choose (q := fun i a => (cs.drop (i * sz)).take sz = encA a ∧ ok a) n (fun i hi => by
    have := hx i hi
    rw [he, List.getElem?_eq_getElem (by omega)] at this
    exact hdec _ _ _ this)
  refine ⟨l, hl, parts_flatMap encA sz l cs (by rw [hlen, hC, hl]) (fun i x hi => (hq i x hi).1), fun x hx => ?_⟩
  obtain ⟨i, hi, rfl⟩ := List.getElem_of_mem hx
  exact (hq i _ (List.getElem?_eq_getElem hi)).2
theorem dec_bytesA {P : Program} {n : Nat} {t e : TypeId} (ht : P.underlying t = some (.array n e)) (hei : P.underlying e = some (.int .u8)) (he : P.cellsOf e = 1) (hC : P.cellsOf t = n) (fuel : Nat) (cs : List Value) (x : DataW H × List MemPlace)
    (h : DataW.trod enc P w 0 (fun _ => true) true fuel t cs = some x) : ∃ l : List UInt8, l.length = n ∧ cs = bvs l := by
  obtain ⟨l, h1, h2, -⟩ := dec_arr (encA := fun b : UInt8 => [bv b]) (ok := fun _ => True) ht he (by rw [hC, Nat.mul_one]) (dec_byte hei) fuel cs x h
  exact ⟨l, h1, by rw [h2, map_flat bv, bvs]⟩
end
set_option maxRecDepth 100000 in
theorem open_blocks {H : Type} {enc : TypeId × Value → H} {W : World} {base : Nat} {v : Value} {d : DataW H} {p : List MemPlace}
    (hv : Value.okWide Try.prog W .any base 23 v) (h : DataW.Trod enc Try.prog W 0 (fun _ => true) true 23 v d p) : ∃ A n c l, v = .slice A n c ∧ BAt W W.heap.size A n c l := by
  obtain ⟨A, n, c, l, h1, h2, h3, h4, h5, h6, h7⟩ := open_slA (encA := fun x : { r : Blk // r.length = 128 } => bvs x.1) (ok := fun _ => True) (sz := 128) Try.underlying23 (by kernel_rfl) (by omega) (fun x => by rw [bvs_len]; exact x.2)
    (fun fuel cs x h => by obtain ⟨r, hr, ho⟩ := dec_bytesA (n := 128) Try.underlying40 Try.underlying5 (by kernel_rfl) (by kernel_rfl) fuel cs x h; exact ⟨⟨r, hr⟩, ho, trivial⟩) hv h
  refine ⟨A, n, c, l.map (·.1), h1, ⟨fun x hx => ?_, by rw [List.length_map, h2], ?_, h3⟩⟩
  · obtain ⟨y, -, rfl⟩ := List.mem_map.1 hx; exact y.2
  · unfold bsv; rw [List.flatMap_map]; exact h6
attribute [-go_sem] Builtin.append_
set_option maxHeartbeats 16000000 in
set_option maxRecDepth 100000 in
theorem codes_core {a : Int} (a0 : -9223372036854775808 ≤ a) (a1 : a ≤ 9223372036854775807) {A A' : Option Addr} {n c m c' : Nat} {body : List UInt8} {l : List Blk} (w : World) (hs : Sl w w.heap.size 1 A n (bvs body)) (hl : body.length = n) (hn : n ≤ 2000) (hba : BAt w w.heap.size A' m c' l) (hm : m ≤ 20) :
    Calls Try.prog 3 #[.int .i64 a, .slice A n c, .slice A' m c'] w (Ret w (.bool true)) := by
  have hF8 := frame_len8 a body
  have hFa := frame_all a body
  have hlb := hba.len
  have hfr := fun W A c (h : Sl W W.heap.size 1 A n (bvs body)) => frame_any (kind := a) (c := c) hl W h (Nat.le_refl _)
  have hrf := fun W (h : Sl W W.heap.size 1 A n (bvs body)) => rframe_any (kind := a) (c := c) hl W h (Nat.le_refl _)
  obtain ⟨F, hF⟩ : ∃ q, frameB a body = q := ⟨_, rfl⟩
  obtain ⟨E, hE⟩ : ∃ q, frameE a n = q := ⟨_, rfl⟩
  rw [hF] at hF8 hFa
  simp only [hF, hE] at hfr hrf
  have HF := Lib.hid (And.intro hF8 (And.intro hFa (And.intro hl hlb)))
  clear hF hE hF8 hFa hl hlb
  have HS := Lib.hid (And.intro hs hba)
  go_enter Try.func3, Try.ntmps3
  have hbA : Below w.heap.size w (w.alloc (.cells #[] 5)) := (Below.refl _ _).alloc (Nat.le_refl _) _
  have hs1 := hs.below hbA
  have hoc := oneCell_bvs body
  clear hs hba
  go_wp2_with (first
    | (at_builtin; go_loud (refine wpList_app _ rfl (.tmp 25) (.tmp 26) 22 rfl (base := w.heap.size) Try.underlying22 elemC rfl (own_none' w w.heap.size 5 1 (Nat.le_refl _)) rfl hs1 hoc (by simp only [maxLen]; omega) (by omega) (by simp) ?_; intro A7 c7 w7 hown hg hb hat; simp only [Nat.zero_add, List.nil_append] at hown ⊢))
    | fail)
  have hbW := hbA.trans hb
  have hs7 := Sl.of_own hown
  have hfr' := hfr w7 A7 c7 hs7
  have H7 := Lib.hid (And.intro hs7 hbW)
  clear hg hb hat hown hbA hs1 hs7 hbW hfr
  refine Calls.mono hfr' ?_
  rintro e W1 ⟨A8, n8, c8, rfl, hn8, hnc8, hcm8, hs8, hb1⟩
  clear hfr'
  have hsA := HS.out.1.next (bNext H7.out.2 hb1)
  have hrf' := hrf W1 hsA
  have hs71 := H7.out.1.next hb1
  have hB1 := bNext H7.out.2 hb1
  have hbF8 : BAt W1 W1.heap.size A8 n8 c8 F := ⟨HF.out.2.1, hn8.symm, hs8, hnc8⟩
  have hn8' : n8 ≤ 8 := by have := HF.out.1; omega
  have H1 := Lib.hid (And.intro hs71 (And.intro hB1 hbF8))
  clear hrf hn8 hs8 hb1 hs71 hB1 hbF8 hsA H7
  go_wp2_with fail
  refine Calls.mono hrf' ?_
  rintro e W2 ⟨A10, n10, c10, rfl, hn10, hnc10, hcm10, hs10, hb2⟩
  clear hrf'
  have hs72 := H1.out.1.next hb2
  have hB2 := bNext H1.out.2.1 hb2
  have hbF8 := H1.out.2.2.nxt hb2
  have hbF10 : BAt W2 W2.heap.size A10 n10 c10 F := ⟨HF.out.2.1, hn10.symm, hs10, hnc10⟩
  have hba2 := HS.out.2.nxt hB2
  have hbA2 : Below W2.heap.size W2 (W2.alloc (.cells #[] 40)) := (Below.refl _ _).alloc (Nat.le_refl _) _
  have hs2 := hba2.sl.below hbA2
  have hoc2 := oneCell_bvs l.flatten
  rw [← bsv_flat] at hoc2
  have H2 := Lib.hid (And.intro hs72 (And.intro hB2 (And.intro hbF8 (And.intro hbF10 hba2))))
  clear hn10 hs10 hb2 hs72 hB2 hbF8 hbF10 hba2 H1
  go_upto_region 6 with (fail)
  refine wp_region_lit ?_
  iterate 6 (first | go_guarded | go_step)
  refine wpList_app _ rfl (.tmp 41) (.tmp 42) 23 rfl (base := W2.heap.size) Try.underlying23 elemB rfl (own_none' W2 W2.heap.size 40 128 (Nat.le_refl _)) rfl hs2 hoc2 (by simp only [maxLen]; omega) (by omega) (by simp) ?_
  intro A43 c43 w43 hown hg hb hat
  simp only [Nat.zero_add, List.nil_append] at hown ⊢
  (try simp only [Act.put, List.setIfInBounds_toArray, List.set_cons_zero, List.set_cons_succ])
  have hb43 := hbA2.trans hb
  obtain ⟨A', c'', e, hnc43, hcm43⟩ := own_form hown
  simp only [Value.slice.injEq] at e
  obtain ⟨rfl, -, rfl⟩ := e
  have hba43 : BAt w43 w43.heap.size A43 m c43 l := ⟨HS.out.2.all, HF.out.2.2.2, Sl.of_own hown, hnc43⟩
  have hbd := body_any w43 hba43 (by omega)
  have H43 := Lib.hid hb43
  clear hown hg hb hat hbA2 hs2 hoc2 hb43 hnc43 hcm43 hba43
  unfold BodP at hbd
  have hrb := fun W (h : BAt W W.heap.size A' m c' l) => rbody_any W h (by omega)
  unfold RBodP gtv at hrb
  have hN8 : (bodyOf l).length ≤ 65536 := by
    unfold bodyOf
    split
    · unfold obBody
      rw [List.length_take]
      have := n16_lt l.flatten 1
      have e : obN l = n16 l.flatten 1 := rfl
      omega
    · simp
  obtain ⟨K, hK⟩ : ∃ q, kindOf l = q := ⟨_, rfl⟩
  obtain ⟨EE, hEE⟩ : ∃ q, bodyE l = q := ⟨_, rfl⟩
  obtain ⟨BB, hBB⟩ : ∃ q, bodyOf l = q := ⟨_, rfl⟩
  rw [hK, hEE, hBB] at hbd
  simp only [hK, hEE, hBB] at hrb
  clear hK hEE hBB
  go_wp2_with fail
  refine Calls.mono hbd ?_
  rintro e W4 ⟨A13, n13, c13, rfl, hn13, hnc13, hcm13, hs13, hb4⟩
  clear hbd
  obtain ⟨h1, h2, h3, h4, h5⟩ := H2.out
  have hb24 := H43.out.trans (hb4.mono H43.out.size)
  have hs74 := h1.next hb24
  have hB4 := bNext h2 hb24
  have hbF8 := h3.nxt hb24
  have hbF10 := h4.nxt hb24
  have hba4 := h5.nxt hb24
  have hrb' := hrb W4 hba4
  have H4 := Lib.hid (And.intro hs74 (And.intro hB4 (And.intro hbF8 (And.intro hbF10 (And.intro hs13 hn13)))))
  clear h1 h2 h3 h4 h5 hb24 hs74 hB4 hbF8 hbF10 hba4 hs13 hn13 hb4 H43 H2 hrb
  go_wp2_with fail
  refine Calls.mono hrb' ?_
  rintro e W5 ⟨A49, n49, c49, rfl, hn49, -, -, hs49, hb5⟩
  clear hrb'
  obtain ⟨z, hz⟩ : ∃ q, gtz = q := ⟨_, rfl⟩
  have hzz := gtZ
  have hzs : z.size = 3 := by rw [← hz]; rfl
  rw [hz] at hzz
  clear hz
  obtain ⟨Y, hY, y15, bY⟩ := newRow W5 z #[.int .i64 K, .slice A49 n49 c49, .int .i64 EE] 33
  have hb4Y := hb5.trans (bY.mono hb5.size)
  obtain ⟨h1, h2, h3, h4, h5, h6⟩ := H4.out
  have hs7Y := h1.next hb4Y
  have hBY := bNext h2 hb4Y
  have hq := keepb_any Y (h3.nxt hb4Y) (h4.nxt hb4Y) (Nat.le_refl _) (Nat.le_refl _) (by omega)
  rw [decide_eq_true rfl] at hq
  have hs13Y := h5.next hb4Y
  have hs49Y := hs49.next bY
  have hsAY := HS.out.1.next hBY
  have c15a : Y.cell? ⟨W5.heap.size, 0, none⟩ = some (.int .i64 K) := blk_cell y15 rfl
  have c15b : Y.cell? ⟨W5.heap.size, 1, none⟩ = some (.slice A49 n49 c49) := blk_cell y15 rfl
  have c15c : Y.cell? ⟨W5.heap.size, 2, none⟩ = some (.int .i64 EE) := blk_cell y15 rfl
  have l15 := (Array.getElem?_eq_some_iff.1 y15).1
  have hby1 := fun W (h : Below Y.heap.size Y W) c c' => bytes_eqC (c := c) (c' := c') W (hs13Y.below h) (hs49Y.below h)
  have hby2 := fun W (h : Below Y.heap.size Y W) c c' => bytes_eqC (c := c) (c' := c') W (hs7Y.below h) (hsAY.below h)
  have hk1 := fun W => blocks_any (n : Int) W (by omega) (by omega)
  have hk2 := fun W => rblocks_any (n : Int) W (by omega) (by omega)
  have hk3 := fun W => blocks_any a W a0 a1
  have hk4 := fun W => rblocks_any a W a0 a1
  obtain ⟨b1, hb1⟩ : ∃ q, blocksN (n : Int) = q := ⟨_, rfl⟩
  obtain ⟨b2, hb2⟩ : ∃ q, blocksN a = q := ⟨_, rfl⟩
  simp only [hb1] at hk1 hk2
  simp only [hb2] at hk3 hk4
  have HB := Lib.hid hBY
  clear h1 h2 h3 h4 h5 h6 hs7Y hBY hs13Y hs49Y hsAY hb4Y hb5 bY y15 hs49 hn49 H4 hb1 hb2 hN8
  go_upto_region 8 with (first
    | (refine wpList_new rfl hzz rfl ?_)
    | (refine wpList_store_row rfl 33 (.tmp 15) (.tmp 49) rfl _ #[.int .i64 K, .slice A49 n49 c49, .int .i64 EE] rfl rfl _ z (heap_alloc_new _ _) (gt_info _ _ _) (by rw [hzs]; rfl) (by simp [Value.oneCell']) ?_)
    | fail)
  rw [hY]
  clear hY hzz
  go_wp2_with (first
    | (go_at_call 18; go_loud (with_reducible refine Calls.mono hq ?_); clear hq; rintro e Y2 ⟨rfl, hbY2⟩; replace c15a := (hbY2.cell (p := ⟨W5.heap.size, 0, none⟩) l15).trans c15a; replace c15b := (hbY2.cell (p := ⟨W5.heap.size, 1, none⟩) l15).trans c15b; replace c15c := (hbY2.cell (p := ⟨W5.heap.size, 2, none⟩) l15).trans c15c; have l16 : W5.heap.size < Y2.heap.size := Nat.lt_of_lt_of_le l15 hbY2.size)
    | fail)
  clear l15
  have l17 := hbY2.size
  go_wp2_with (first
    | (go_at_call 19; first | (with_reducible refine Calls.mono (hby1 _ hbY2 _ _) ?_); rintro e w' ⟨rfl, rfl⟩ | (with_reducible refine Calls.mono (hby2 _ hbY2 _ _) ?_); rintro e w' ⟨rfl, rfl⟩)
    | (go_at_call 20; first | (with_reducible refine Calls.mono (hk1 _) ?_); rintro e w' ⟨rfl, rfl⟩ | (with_reducible refine Calls.mono (hk3 _) ?_); rintro e w' ⟨rfl, rfl⟩)
    | (go_at_call 21; first | (with_reducible refine Calls.mono (hk2 _) ?_); rintro e w' ⟨rfl, rfl⟩ | (with_reducible refine Calls.mono (hk4 _) ?_); rintro e w' ⟨rfl, rfl⟩)
    | (go_at_call 13; refine Calls.mono (wakes03_any _) ?_; rintro e W9 ⟨rfl, hb9⟩)
    | fail)
  go_ret
  exact Ret.mk rfl (bNext (bNext HB.out hbY2) hb9)
set_option maxRecDepth 100000 in
theorem objectCodes_walk {H : Type} {enc : TypeId × Value → H} {W : World} {base : Nat} {v0 v1 v2 : Value} {d0 d1 d2 : DataW H} {p0 p1 p2 : List MemPlace}
    (k0 : Value.okWide Try.prog W .any base 3 v0) (h0 : DataW.Trod enc Try.prog W 0 (fun _ => true) true 3 v0 d0 p0)
    (k1 : Value.okWide Try.prog W .any base 22 v1) (h1 : DataW.Trod enc Try.prog W 0 (fun _ => true) true 22 v1 d1 p1)
    (k2 : Value.okWide Try.prog W .any base 23 v2) (h2 : DataW.Trod enc Try.prog W 0 (fun _ => true) true 23 v2 d2 p2)
    : Calls Try.prog 3 #[v0, v1, v2] W fun e W' => e = .returned (.bool true) ∧ Below W.heap.size W W' := by
  obtain ⟨a, rfl, _, _, wa⟩ := open_int Try.underlying3 k0 h0
  have ha := wf64 wa
  obtain ⟨A0, n0, c0, b, rfl, hl, hn0, hc0, -, hsl⟩ := open_bytes_sl Try.underlying22 Try.underlying5 (by kernel_rfl) k1 h1
  obtain ⟨A1, m, c1, l, rfl, hba⟩ := open_blocks k2 h2
  by_cases h : 2000 < n0
  · exact big_codes W (.inl h)
  · by_cases h' : 20 < m
    · exact big_codes W (.inr ⟨h, h'⟩)
    · exact codes_core ha.1 ha.2 W hsl hl (by omega) hba (by omega)
end Go.Proofs.Ythmjkgpfnpdddaa
