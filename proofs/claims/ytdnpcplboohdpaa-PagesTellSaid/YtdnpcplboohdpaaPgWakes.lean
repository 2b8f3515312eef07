/- The wakes of layer 20. (s8/pgwakes.py writes it.) -/
import Derived.Test.YtdnpcplboohdpaaPgBest
import Derived.Test.YtdnpcplboohdpaaPgKeep
namespace Go.Proofs.Ytdnpcplboohdpaa
set_option linter.unusedSimpArgs false
set_option linter.unusedVariables false
open Go.RowKit Go.Sort

def wl : List LN := [⟨1, true, false, false, .slice none 0 0⟩, ⟨1, false, false, false, .slice none 0 0⟩, ⟨1, false, false, false, .slice none 0 0⟩, ⟨1, false, true, false, .slice none 0 0⟩, ⟨4, false, false, false, .slice none 0 0⟩, ⟨2, true, true, false, .slice none 0 0⟩]
theorem wl_one : ∀ x ∈ wl, x.One := by
  intro x hx
  simp only [wl, List.mem_cons, List.mem_nil_iff, or_false] at hx
  rcases hx with rfl | rfl | rfl | rfl | rfl | rfl <;> rfl
theorem wl_wide : ∀ x ∈ wl, -9223372036854775808 ≤ x.kind ∧ x.kind ≤ 9223372036854775807 := by
  intro x hx
  simp only [wl, List.mem_cons, List.mem_nil_iff, or_false] at hx
  rcases hx with rfl | rfl | rfl | rfl | rfl | rfl <;> exact ⟨by decide, by decide⟩
theorem wl_cost : costN wl 0 3 3 = 150 ∧ pgOk wl 0 3 3 = true ∧ costN wl 0 2 3 = 10 ∧ pgOk wl 0 2 3 = true ∧ pgOk wl 0 4 3 = false ∧ costN wl 5 6 3 = 0 ∧ pgOk wl 5 6 3 = true := by decide +kernel
theorem wl_best : bestP wl 3 = ⟨[2, 4, 6], 10⟩ ∧ bestP wl 2 = ⟨[], 0⟩ := by decide +kernel
theorem words20 : ∃ (c1 c2 c3 c4 c5 : Array Value) (L : List LN) (cl : Array Value), L = wl ∧ cl.toList = lns L ∧
    Try.prog.built 45 [(0, .int .i64 1), (1, .bool true)] = some c1 ∧ Try.prog.built 45 [(0, .int .i64 1)] = some c2 ∧
    Try.prog.built 45 [(0, .int .i64 1), (2, .bool true)] = some c3 ∧ Try.prog.built 45 [(0, .int .i64 4)] = some c4 ∧
    Try.prog.built 45 [(0, .int .i64 2), (1, .bool true), (2, .bool true)] = some c5 ∧
    (∀ w : World, (Instr.buildSlice 22 6 #[(0, .agg c1), (1, .agg c2), (2, .agg c2), (3, .agg c3), (4, .agg c4), (5, .agg c5)]).run Try.prog w = .ok (.slice (some ⟨w.heap.size, 0, none⟩) 6 6) (w.alloc (.cells cl 45))) := by
  refine ⟨#[.int .i64 1, .bool true, .bool false, .bool false, .slice none 0 0], #[.int .i64 1, .bool false, .bool false, .bool false, .slice none 0 0], #[.int .i64 1, .bool false, .bool true, .bool false, .slice none 0 0], #[.int .i64 4, .bool false, .bool false, .bool false, .slice none 0 0], #[.int .i64 2, .bool true, .bool true, .bool false, .slice none 0 0], wl, (lns wl).toArray, rfl, rfl, by kernel_rfl, by kernel_rfl, by kernel_rfl, by kernel_rfl, by kernel_rfl, fun w => ?_⟩
  obtain ⟨i, hi, hzz, hs⟩ := lnZ.info
  have hs5 : i.size = 5 := hs
  refine run_buildSlice w _ 45 6 _ _ i _ Try.underlying22 hi hzz (by rw [hs5]; decide) (by rw [hs5]; decide) ?_
  rw [hs5]
  kernel_rfl
theorem wpList_slice {P : Program} {ops : Array Oper} {rest : List Oper} {o : Oper} {a : Act} {w w' : World} {Q : Exit → Act → World → Prop} (hgd : o.guard = none) (t : TypeId) (k : Nat) (parts : Array (Nat × Operand)) (ho : o.op = .buildSlice t k parts) {v : Value}
    (hrun : (Instr.buildSlice t k (parts.map fun (i, x) => (i, a.eval x))).run P w = .ok v w') (h : wpList P ops Q rest (a.put o.dst v) w') : wpList P ops Q (o :: rest) a w :=
  wpList_plain hgd fun _ hK => by
    unfold Oper.wp execOp
    simp only [ho, Sem.run_bind, hrun, Result.andThen_ok, Sem.run_pure]
    exact hK _ _ h
theorem lit_ints {W : World} {g : Nat} {l : List Int} {n : Nat} (h : W.heap[g]? = some (.cells (ivs l).toArray 3)) (hl : l.length = n) (hw : ∀ x ∈ l, -9223372036854775808 ≤ x ∧ x ≤ 9223372036854775807) : IvAt W W.heap.size (some ⟨g, 0, none⟩) n n l :=
  ⟨hw, hl, Sl.new (sz := 1) (n := n) h (by simp [ivs, hl]), Nat.le_refl _⟩
theorem w246 : ∀ x ∈ ([2, 4, 6] : List Int), -9223372036854775808 ≤ x ∧ x ≤ 9223372036854775807 := by decide
set_option maxHeartbeats 16000000 in
set_option maxRecDepth 100000 in
theorem wakes20_any (w : World) : Calls Try.prog 9 #[] w (Ret w (.bool true)) := by
  obtain ⟨c1, c2, c3, c4, c5, L, cl, hL, hcl, b1, b2, b3, b4, b5, hsl⟩ := words20
  have hone : ∀ x ∈ L, x.One := by rw [hL]; exact wl_one
  have hwide : ∀ x ∈ L, -9223372036854775808 ≤ x.kind ∧ x.kind ≤ 9223372036854775807 := by rw [hL]; exact wl_wide
  have hlen : L.length = 6 := by rw [hL]; rfl
  have hco := wl_cost
  have hbe := wl_best
  rw [← hL] at hco hbe
  have hlk : ∀ W g, W.heap[g]? = some (.cells cl 45) → LnAt W W.heap.size (some ⟨g, 0, none⟩) 6 6 L := fun W g h =>
    ⟨hlen, by rw [← hcl]; exact Sl.new (sz := 5) (n := 6) h (by have := congrArg List.length hcl; rw [lns_len, hlen] at this; simpa using this), Nat.le_refl _, hwide⟩
  clear hL hcl hlen hwide
  have hc1 := fun W g (h : W.heap[g]? = some (.cells cl 45)) => cost_any (a := 0) (b := 3) (h := 3) W (hlk W g h) hone (by decide) (by decide)
  have hc2 := fun W g (h : W.heap[g]? = some (.cells cl 45)) => cost_any (a := 0) (b := 2) (h := 3) W (hlk W g h) hone (by decide) (by decide)
  have hc3 := fun W g (h : W.heap[g]? = some (.cells cl 45)) => cost_any (a := 0) (b := 4) (h := 3) W (hlk W g h) hone (by decide) (by decide)
  have hc4 := fun W g (h : W.heap[g]? = some (.cells cl 45)) => cost_any (a := 5) (b := 6) (h := 3) W (hlk W g h) hone (by decide) (by decide)
  have hb3 := fun W g (h : W.heap[g]? = some (.cells cl 45)) => best_any (h := 3) W (hlk W g h) hone
  have hb2 := fun W g (h : W.heap[g]? = some (.cells cl 45)) => best_any (h := 2) W (hlk W g h) hone
  simp only [hco.1, hco.2.1, hco.2.2.1, hco.2.2.2.1, hco.2.2.2.2.1, hco.2.2.2.2.2.1, hco.2.2.2.2.2.2, hbe.1, hbe.2] at hc1 hc2 hc3 hc4 hb3 hb2
  obtain ⟨z3, hz3⟩ : ∃ q, costN L 0 4 3 = q := ⟨_, rfl⟩
  simp only [hz3] at hc3
  unfold SecP wyv at hb3 hb2
  clear hlk hone hco hbe hz3
  go_enter Try.func9, Try.ntmps9
  go_upto_region 1 with (fail)
  refine wp_region_lit ?_
  refine wpList_built rfl 45 #[(0, .const (.int .i64 1)), (1, .const (.bool true))] rfl (cs := c1) (by simp only [List.map_toArray, List.map_cons, List.map_nil]; exact b1) ?_
  (try simp only [Act.put, List.setIfInBounds_toArray, List.set_cons_zero, List.set_cons_succ])
  refine wpList_built rfl 45 #[(0, .const (.int .i64 1))] rfl (cs := c2) (by simp only [List.map_toArray, List.map_cons, List.map_nil]; exact b2) ?_
  (try simp only [Act.put, List.setIfInBounds_toArray, List.set_cons_zero, List.set_cons_succ])
  refine wpList_built rfl 45 #[(0, .const (.int .i64 1))] rfl (cs := c2) (by simp only [List.map_toArray, List.map_cons, List.map_nil]; exact b2) ?_
  (try simp only [Act.put, List.setIfInBounds_toArray, List.set_cons_zero, List.set_cons_succ])
  refine wpList_built rfl 45 #[(0, .const (.int .i64 1)), (2, .const (.bool true))] rfl (cs := c3) (by simp only [List.map_toArray, List.map_cons, List.map_nil]; exact b3) ?_
  (try simp only [Act.put, List.setIfInBounds_toArray, List.set_cons_zero, List.set_cons_succ])
  refine wpList_built rfl 45 #[(0, .const (.int .i64 4))] rfl (cs := c4) (by simp only [List.map_toArray, List.map_cons, List.map_nil]; exact b4) ?_
  (try simp only [Act.put, List.setIfInBounds_toArray, List.set_cons_zero, List.set_cons_succ])
  refine wpList_built rfl 45 #[(0, .const (.int .i64 2)), (1, .const (.bool true)), (2, .const (.bool true))] rfl (cs := c5) (by simp only [List.map_toArray, List.map_cons, List.map_nil]; exact b5) ?_
  (try simp only [Act.put, List.setIfInBounds_toArray, List.set_cons_zero, List.set_cons_succ])
  refine wpList_slice rfl 22 6 #[(0, .tmp 11), (1, .tmp 12), (2, .tmp 13), (3, .tmp 14), (4, .tmp 15), (5, .tmp 16)] rfl (by simp only [List.map_toArray, List.map_cons, List.map_nil]; exact hsl w) ?_
  (try simp only [Act.put, List.setIfInBounds_toArray, List.set_cons_zero, List.set_cons_succ])
  clear b1 b2 b3 b4 b5 hsl
  obtain ⟨W1, hW1⟩ : ∃ q, w.alloc (.cells cl 45) = q := ⟨_, rfl⟩
  have y1 : W1.heap[w.heap.size]? = some (.cells cl 45) := by rw [← hW1]; exact heap_alloc_new _ _
  have hB1 : Below w.heap.size w W1 := by rw [← hW1]; exact (Below.refl _ _).alloc (Nat.le_refl _) _
  rw [hW1]
  clear hW1
  have hc1' := hc1 W1 _ y1
  have H1 := Lib.hid (And.intro y1 hB1)
  clear hc1 y1 hB1
  go_upto_region 2 with (fail)
  go_wp2_with fail
  refine Calls.mono hc1' ?_
  rintro e W2 ⟨rfl, hb⟩
  clear hc1'
  have y2 := bBlk hb (Array.getElem?_eq_some_iff.1 H1.out.1).1 H1.out.1
  have hc2' := hc2 W2 _ y2
  have H2 := Lib.hid (And.intro y2 (bNext H1.out.2 hb))
  clear hc2 y2 hb H1
  go_upto_region 3 with (fail)
  go_wp2_with fail
  refine Calls.mono hc2' ?_
  rintro e W3 ⟨rfl, hb⟩
  clear hc2'
  have y3 := bBlk hb (Array.getElem?_eq_some_iff.1 H2.out.1).1 H2.out.1
  have hc3' := hc3 W3 _ y3
  have H3 := Lib.hid (And.intro y3 (bNext H2.out.2 hb))
  clear hc3 y3 hb H2
  go_upto_region 4 with (fail)
  go_wp2_with fail
  refine Calls.mono hc3' ?_
  rintro e W4 ⟨rfl, hb⟩
  clear hc3'
  have y4 := bBlk hb (Array.getElem?_eq_some_iff.1 H3.out.1).1 H3.out.1
  have hc4' := hc4 W4 _ y4
  have H4 := Lib.hid (And.intro y4 (bNext H3.out.2 hb))
  clear hc4 y4 hb H3
  go_upto_region 5 with (fail)
  go_wp2_with fail
  refine Calls.mono hc4' ?_
  rintro e W5 ⟨rfl, hb⟩
  clear hc4'
  have y5 := bBlk hb (Array.getElem?_eq_some_iff.1 H4.out.1).1 H4.out.1
  have hb3' := hb3 W5 _ y5
  have H5 := Lib.hid (And.intro y5 (bNext H4.out.2 hb))
  clear hb3 y5 hb H4
  obtain ⟨zw, hzw⟩ : ∃ q, wyz = q := ⟨_, rfl⟩
  have hwz := wyZ
  have hz3 : wyz.size = 3 := rfl
  rw [hzw] at hwz hz3
  clear hzw
  go_upto_region 6 with (fail)
  go_wp2_with fail
  refine Calls.mono hb3' ?_
  rintro e W6 ⟨A6, m6, c6, rfl, hiv, hb⟩
  clear hb3'
  obtain rfl : m6 = 3 := by have := hiv.len; simpa using this.symm
  obtain ⟨cw, hcw⟩ : ∃ q : Array Value, #[.slice A6 3 c6, .int .i64 10, .int .i64 0] = q := ⟨_, rfl⟩
  rw [hcw]
  have hwi : (Try.prog.info? 35).map (·.size) = some cw.size := by rw [← hcw]; exact wy_size
  have hzc : zw.size = cw.size := by rw [hz3, ← hcw]; rfl
  have hk1 : cw.all (·.oneCell') = true := by rw [← hcw]; simp [Value.oneCell']
  obtain ⟨Y, hY, yw, bY⟩ := newRow W6 zw cw 35
  have y6 := bBlk (hb.trans (bY.mono hb.size)) (Array.getElem?_eq_some_iff.1 H5.out.1).1 H5.out.1
  have hBY := bNext H5.out.2 (hb.trans (bY.mono hb.size))
  have hivY := hiv.nxt bY
  rw [← hcw] at yw
  have k0 : Y.cell? ⟨W6.heap.size, 0, none⟩ = some (.slice A6 3 c6) := blk_cell yw rfl
  have k1 : Y.cell? ⟨W6.heap.size, 1, none⟩ = some (.int .i64 10) := blk_cell yw rfl
  have hlt := (Array.getElem?_eq_some_iff.1 yw).1
  obtain ⟨W7, hW7⟩ : ∃ q, Y.alloc (.cells (ivs [2, 4, 6]).toArray 3) = q := ⟨_, rfl⟩
  have hb7 : Below Y.heap.size Y W7 := by rw [← hW7]; exact (Below.refl _ _).alloc (Nat.le_refl _) _
  have y7 : W7.heap[Y.heap.size]? = some (.cells (ivs [2, 4, 6]).toArray 3) := by rw [← hW7]; exact heap_alloc_new _ _
  have hki := keepi_any W7 (hivY.nxt hb7) (lit_ints (n := 3) y7 rfl w246) (Nat.le_refl _) (Nat.le_refl _) (by decide)
  have h6 := bBlk hb7 (Array.getElem?_eq_some_iff.1 y6).1 y6
  have hm1 : W7.cell? ⟨W6.heap.size, 1, none⟩ = some (.int .i64 10) := (hb7.cell (p := ⟨W6.heap.size, 1, none⟩) hlt).trans k1
  have HW := Lib.hid (And.intro hW7 (And.intro h6 (And.intro (bNext hBY hb7) hm1)))
  have hlt7 : W6.heap.size < W7.heap.size := by have := hb7.size; omega
  clear hb hiv bY y6 hBY hivY hb7 y7 h6 hm1 yw
  go_upto_region 7 with (first
    | (refine wpList_new rfl hwz rfl ?_)
    | (refine wpList_store_row rfl 35 (.tmp 10) (.tmp 39) rfl _ cw rfl rfl _ zw (heap_alloc_new _ _) hwi hzc hk1 ?_)
    | fail)
  try rw [hY]
  clear hY hcw hwi hzc hk1
  go_wp2_with fail
  rw [show Y.alloc (.cells #[.int .i64 2, .int .i64 4, .int .i64 6] 3) = W7 from hW7]
  refine Calls.mono hki ?_
  rintro e W8 ⟨rfl, hb8⟩
  clear hki
  have h8 := bBlk hb8 (Array.getElem?_eq_some_iff.1 HW.out.2.1).1 HW.out.2.1
  have hb2' := hb2 W8 _ h8
  have k8 : W8.cell? ⟨W6.heap.size, 1, none⟩ = some (.int .i64 10) := (hb8.cell (p := ⟨W6.heap.size, 1, none⟩) hlt7).trans HW.out.2.2.2
  have HB8 := Lib.hid (bNext HW.out.2.2.1 hb8)
  clear hb8 h8 hb2 HW hW7 k0 k1
  go_wp2_with fail
  refine Calls.mono hb2' ?_
  rintro e W9 ⟨A9, m9, c9, rfl, hiv9, hb9⟩
  clear hb2'
  obtain rfl : m9 = 0 := by have := hiv9.len; simpa using this.symm
  have HB9 := Lib.hid (bNext HB8.out hb9)
  clear hiv9 hb9 HB8
  have hfd : (Instr.field 35 (.agg #[.slice A9 0 c9, .int .i64 0, .int .i64 0]) 0).run Try.prog W9 = .ok (.slice A9 0 c9) W9 := by kernel_rfl
  go_wp2_with fail
  go_ret
  exact Ret.mk (vbool (by simp)) HB9.out

end Go.Proofs.Ytdnpcplboohdpaa
