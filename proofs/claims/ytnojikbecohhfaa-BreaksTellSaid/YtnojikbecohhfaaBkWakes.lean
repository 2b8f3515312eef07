/- The wakes of layer 17, whole (s10/bkwakes2.py writes it). -/
import Derived.Test.YtnojikbecohhfaaBkWk1
namespace Go.Proofs.Ytnojikbecohhfaa
set_option linter.unusedSimpArgs false
set_option linter.unusedVariables false
open Go.RowKit Go.Sort

theorem words17 : ∃ (c1 c2 c3 c4 cs c5 : Array Value) (L M : List It) (cl cm : Array Value), L = L7 ∧ M = L1 ∧ cl.toList = encs L ∧ cm.toList = encs M ∧
    (∀ w, Calls Try.prog 25 #[.int .i64 20, .string ⟨#[97]⟩] w (Ret w (.agg c1))) ∧ (∀ w, Calls Try.prog 25 #[.int .i64 16, .string ⟨#[98]⟩] w (Ret w (.agg c2))) ∧
    (∀ w, Calls Try.prog 25 #[.int .i64 20, .string ⟨#[99]⟩] w (Ret w (.agg c3))) ∧ (∀ w, Calls Try.prog 25 #[.int .i64 5, .string ⟨#[100]⟩] w (Ret w (.agg c4))) ∧
    (∀ w, Calls Try.prog 24 #[] w (Ret w (.agg cs))) ∧ (∀ w, Calls Try.prog 25 #[.int .i64 50, .string ⟨#[97]⟩] w (Ret w (.agg c5))) ∧
    (∀ w : World, (Instr.buildSlice 22 7 #[(0, .agg c1), (1, .agg cs), (2, .agg c2), (3, .agg cs), (4, .agg c3), (5, .agg cs), (6, .agg c4)]).run Try.prog w = .ok (.slice (some ⟨w.heap.size, 0, none⟩) 7 7) (w.alloc (.cells cl 53))) ∧
    (∀ w : World, (Instr.buildSlice 22 1 #[(0, .agg c5)]).run Try.prog w = .ok (.slice (some ⟨w.heap.size, 0, none⟩) 1 1) (w.alloc (.cells cm 53))) := by
  refine ⟨ec (wbox 20 ⟨#[97]⟩), ec (wbox 16 ⟨#[98]⟩), ec (wbox 20 ⟨#[99]⟩), ec (wbox 5 ⟨#[100]⟩), ec wsp, ec (wbox 50 ⟨#[97]⟩), L7, L1, (encs L7).toArray, (encs L1).toArray, rfl, rfl, by simp, by simp, box_any _ _, box_any _ _, box_any _ _, box_any _ _, space_any, box_any _ _, fun w => ?_, fun w => ?_⟩
  · obtain ⟨i, hi, hzz, hs⟩ := itZ.info
    have hs5 : i.size = 6 := hs
    refine run_buildSlice w _ 53 7 _ _ i _ Try.underlying22 hi hzz (by rw [hs5]; decide) (by rw [hs5]; decide) ?_
    rw [hs5]
    kernel_rfl
  · obtain ⟨i, hi, hzz, hs⟩ := itZ.info
    have hs5 : i.size = 6 := hs
    refine run_buildSlice w _ 53 1 _ _ i _ Try.underlying22 hi hzz (by rw [hs5]; decide) (by rw [hs5]; decide) ?_
    rw [hs5]
    kernel_rfl
theorem ints2 (a b : Int) (w : World) : (Instr.buildSlice 25 2 #[(0, .int .i64 a), (1, .int .i64 b)]).run Try.prog w = .ok (.slice (some ⟨w.heap.size, 0, none⟩) 2 2) (w.alloc (.cells #[.int .i64 a, .int .i64 b] 3)) := by
  go_simp
theorem styZ : ZeroIs Try.prog 24 #[.int .i64 0, .int .i64 0, .int .i64 0, .int .i64 0, .int .i64 0] := by unfold ZeroIs; kernel_rfl
theorem built_sty : Try.prog.built 24 [(0, .int .i64 40), (1, .int .i64 9), (2, .int .i64 200)] = some #[.int .i64 40, .int .i64 9, .int .i64 200, .int .i64 0, .int .i64 0] := by kernel_rfl
theorem wpList_slice_g {P : Program} {ops : Array Oper} {rest : List Oper} {o : Oper} {a : Act} {w w' : World} {Q : Exit → Act → World → Prop} {v : Value} (hw : Region.wanted o (yielded ops a.tmps) = true) (t : TypeId) (k : Nat) (parts : Array (Nat × Operand)) (ho : o.op = .buildSlice t k parts)
    (hrun : (Instr.buildSlice t k (parts.map fun (i, x) => (i, a.eval x))).run P w = .ok v w') (h : wpList P ops Q rest (a.put o.dst v) w') : wpList P ops Q (o :: rest) a w :=
  wpList_step fun _ hK => by
    rw [if_pos hw]
    unfold Oper.wp execOp
    simp only [ho, Sem.run_bind, hrun, Result.andThen_ok, Sem.run_pure]
    exact hK _ _ h
theorem wpList_slice {P : Program} {ops : Array Oper} {rest : List Oper} {o : Oper} {a : Act} {w w' : World} {Q : Exit → Act → World → Prop} {v : Value} (hgd : o.guard = none) (t : TypeId) (k : Nat) (parts : Array (Nat × Operand)) (ho : o.op = .buildSlice t k parts)
    (hrun : (Instr.buildSlice t k (parts.map fun (i, x) => (i, a.eval x))).run P w = .ok v w') (h : wpList P ops Q rest (a.put o.dst v) w') : wpList P ops Q (o :: rest) a w :=
  wpList_plain hgd fun _ hK => by
    unfold Oper.wp execOp
    simp only [ho, Sem.run_bind, hrun, Result.andThen_ok, Sem.run_pure]
    exact hK _ _ h
theorem lit_ints {W : World} {g : Nat} {l : List Int} {n : Nat} (h : W.heap[g]? = some (.cells (ivs l).toArray 3)) (hl : l.length = n) (hw : ∀ x ∈ l, -9223372036854775808 ≤ x ∧ x ≤ 9223372036854775807) : IvAt W W.heap.size (some ⟨g, 0, none⟩) n n l :=
  ⟨hw, hl, Sl.new (sz := 1) (n := n) h (by simp [ivs, hl]), Nat.le_refl _⟩
theorem w37 : ∀ x ∈ ([3, 7] : List Int), -9223372036854775808 ≤ x ∧ x ≤ 9223372036854775807 := by decide
theorem w27 : ∀ x ∈ ([2, 7] : List Int), -9223372036854775808 ≤ x ∧ x ≤ 9223372036854775807 := by decide
theorem IvAt.set2 {w U : World} {b4 : Nat} {A : Option Addr} {m c : Nat} {l : List Int} (h : IvAt w w.heap.size A m c l) (hf : ∀ b o i, A = some ⟨b, o, i⟩ → b ≠ b4) (cs : Array Value) (hU : w.setRow b4 cs = U) : IvAt U U.heap.size A m c l := by
  obtain ⟨hw, hlen, hsl, hcap⟩ := h
  have hsz : w.heap.size ≤ U.heap.size := by rw [← hU]; exact (bSetRow (Below.refl b4 w) (Nat.le_refl _) _).size
  refine ⟨hw, hlen, ⟨hsl.len, fun h0 => ?_⟩, hcap⟩
  obtain ⟨b, o, e, hlt, hr⟩ := hsl.at_ h0
  refine ⟨b, o, e, by omega, fun j v hj => ?_⟩
  refine Eq.trans (World.cell?_of_block (a := ⟨b, o + j, none⟩) ?_) (hr j v hj)
  rw [← hU]
  exact setRow_other _ _ _ _ (hf b o none e)
attribute [-go_sem] Builtin.append_
attribute [-go_sem] Instr.buildSlice
set_option maxHeartbeats 16000000 in
set_option maxRecDepth 100000 in
theorem wakes17_any (w : World) : Calls Try.prog 9 #[] w (Ret w (.bool true)) := by
  obtain ⟨c1, c2, c3, c4, cs, c5, L, M, cl, cm, hL, hM, hcl, hcm, hx1, hx2, hx3, hx4, hxs, hx5, hsl, hsm⟩ := words17
  have hbe := w_best
  have hwa := w_walk
  rw [← hL, ← hM] at hbe
  rw [← hL] at hwa
  have hlL : L.length = 7 := by rw [hL]; rfl
  have hlM : M.length = 1 := by rw [hM]; rfl
  have slL : ∀ W g, W.heap[g]? = some (.cells cl 53) → Sl W W.heap.size 6 (some ⟨g, 0, none⟩) 7 (encs L) := fun W g h => by
    rw [← hcl]; exact Sl.new (sz := 6) (n := 7) h (by rw [hcl, encs_len, hlL])
  have slM : ∀ W g, W.heap[g]? = some (.cells cm 53) → Sl W W.heap.size 6 (some ⟨g, 0, none⟩) 1 (encs M) := fun W g h => by
    rw [← hcm]; exact Sl.new (sz := 6) (n := 1) h (by rw [hcm, encs_len, hlM])
  clear hL hM hcl hcm hlL hlM
  have hbL := fun (W : World) (g : Nat) (h : W.heap[g]? = some (.cells cl 53)) => best_any (n := 7) (c := 7) 40 9 200 0 0 (by omega) W (slL W g h)
  have hbM := fun (W : World) (g : Nat) (h : W.heap[g]? = some (.cells cm 53)) => best_any (n := 1) (c := 1) 40 9 200 0 0 (by omega) W (slM W g h)
  have hb0 := fun W => best_any (A := none) (n := 0) (c := 0) (l := []) 40 9 200 0 0 (by omega) W Sl.nil
  have ht1 := fun (W : World) (g gi : Nat) (h : W.heap[g]? = some (.cells cl 53)) (hi : W.heap[gi]? = some (.cells #[.int .i64 3, .int .i64 7] 3)) => total_any (n := 7) (m := 2) (c := 7) 40 9 200 0 0 (by omega) (by omega) W (slL W g h) (lit_ints (l := [3, 7]) hi rfl w37)
  have hm1 := fun (W : World) (g gi : Nat) (h : W.heap[g]? = some (.cells cl 53)) (hi : W.heap[gi]? = some (.cells #[.int .i64 3, .int .i64 7] 3)) => may_any (n := 7) (m := 2) (c := 7) 40 9 200 0 0 (by omega) (by omega) W (slL W g h) (lit_ints (l := [3, 7]) hi rfl w37)
  have ht2 := fun (W : World) (g gi : Nat) (h : W.heap[g]? = some (.cells cl 53)) (hi : W.heap[gi]? = some (.cells #[.int .i64 2, .int .i64 7] 3)) => total_any (n := 7) (m := 2) (c := 7) 40 9 200 0 0 (by omega) (by omega) W (slL W g h) (lit_ints (l := [2, 7]) hi rfl w27)
  simp only [hbe.1, hbe.2.1, hbe.2.2, hwa.1, hwa.2, totT, wkY, wkM, Option.isSome_some, Option.isSome_none, Option.getD_some, Option.getD_none, wy0, if_true, Bool.false_eq_true, if_false] at hbL hbM hb0 ht1 hm1 ht2
  unfold BestP wyv at hbL hbM hb0
  simp only at hbL hbM hb0
  have hstb := built_sty
  have hstz := styZ
  have hsti : (Try.prog.info? 24).map (·.size) = some (#[.int .i64 40, .int .i64 9, .int .i64 200, .int .i64 0, .int .i64 0] : Array Value).size := sty_size
  have hwz := wyZ
  have wys := wy_size
  clear slL slM hbe hwa
  have HA := Lib.hid hbL
  have HBM := Lib.hid hbM
  have HB0 := Lib.hid hb0
  have HT1 := Lib.hid ht1
  have HM1 := Lib.hid hm1
  have HT2 := Lib.hid ht2
  have HSL := Lib.hid hsl
  have HSM := Lib.hid hsm
  have HX5 := Lib.hid hx5
  clear hbL hbM hb0 ht1 hm1 ht2 hsl hsm hx5
  go_enter Try.func9, Try.ntmps9
  go_upto_region 1 with (fail)
  go_wp2_with fail
  refine Calls.mono (hx1 _) ?_
  rintro e P1 ⟨rfl, hp1⟩
  have hq1 := hp1
  clear hp1
  go_wp2_with fail
  refine Calls.mono (hxs _) ?_
  rintro e P2 ⟨rfl, hp2⟩
  have hq2 := bNext hq1 hp2
  clear hq1 hp2
  go_wp2_with fail
  refine Calls.mono (hx2 _) ?_
  rintro e P3 ⟨rfl, hp3⟩
  have hq3 := bNext hq2 hp3
  clear hq2 hp3
  go_wp2_with fail
  refine Calls.mono (hxs _) ?_
  rintro e P4 ⟨rfl, hp4⟩
  have hq4 := bNext hq3 hp4
  clear hq3 hp4
  go_wp2_with fail
  refine Calls.mono (hx3 _) ?_
  rintro e P5 ⟨rfl, hp5⟩
  have hq5 := bNext hq4 hp5
  clear hq4 hp5
  go_wp2_with fail
  refine Calls.mono (hxs _) ?_
  rintro e P6 ⟨rfl, hp6⟩
  have hq6 := bNext hq5 hp6
  clear hq5 hp6
  go_wp2_with fail
  refine Calls.mono (hx4 _) ?_
  rintro e P7 ⟨rfl, hp7⟩
  have hq7 := bNext hq6 hp7
  clear hq6 hp7
  simp only
  iterate 1 (first | go_guarded | go_step | skip)
  refine wpList_slice rfl 22 7 #[(0, .tmp 11), (1, .tmp 12), (2, .tmp 13), (3, .tmp 14), (4, .tmp 15), (5, .tmp 16), (6, .tmp 17)] rfl (by simp only [List.map_toArray, List.map_cons, List.map_nil]; exact HSL.out P7) ?_
  (try simp only [Act.put, List.setIfInBounds_toArray, List.set_cons_zero, List.set_cons_succ])
  obtain ⟨W1, hW1⟩ : ∃ q, P7.alloc (.cells cl 53) = q := ⟨_, rfl⟩
  obtain ⟨bL, hbLe⟩ : ∃ q, P7.heap.size = q := ⟨_, rfl⟩
  have y1 : W1.heap[bL]? = some (.cells cl 53) := by rw [← hW1, ← hbLe]; exact heap_alloc_new _ _
  have hB1 : Below w.heap.size w W1 := by rw [← hW1]; exact hq7.alloc hq7.size _
  rw [hW1]
  try rw [hbLe]
  clear hW1 hbLe hq7 hx1 hx2 hx3 hx4 hxs HSL
  obtain ⟨W2, hW2, y2, bW2⟩ := newRow W1 #[.int .i64 0, .int .i64 0, .int .i64 0, .int .i64 0, .int .i64 0] #[.int .i64 40, .int .i64 9, .int .i64 200, .int .i64 0, .int .i64 0] 24
  go_upto_region 2 with (fail)
  refine wp_region_lit ?_
  refine wpList_built rfl 24 #[(0, .const (.int .i64 40)), (1, .const (.int .i64 9)), (2, .const (.int .i64 200))] rfl (cs := #[.int .i64 40, .int .i64 9, .int .i64 200, .int .i64 0, .int .i64 0]) (by simp only [List.map_toArray, List.map_cons, List.map_nil]; exact hstb) ?_
  (try simp only [Act.put, List.setIfInBounds_toArray, List.set_cons_zero, List.set_cons_succ])
  refine wpList_new rfl hstz rfl ?_
  (try simp only [Act.put, List.setIfInBounds_toArray, List.set_cons_zero, List.set_cons_succ])
  refine wpList_store_row rfl 24 (.tmp 2) (.tmp 19) rfl _ #[.int .i64 40, .int .i64 9, .int .i64 200, .int .i64 0, .int .i64 0] rfl rfl _ #[.int .i64 0, .int .i64 0, .int .i64 0, .int .i64 0, .int .i64 0] (heap_alloc_new _ _) hsti rfl (by simp [Value.oneCell']) ?_
  (try simp only [Act.put, List.setIfInBounds_toArray, List.set_cons_zero, List.set_cons_succ])
  try rw [hW2]
  have l1 := (Array.getElem?_eq_some_iff.1 y1).1
  have yL2 := bBlk bW2 l1 y1
  have hB2 := bNext hB1 bW2
  obtain ⟨bS, hbS⟩ : ∃ q, W1.heap.size = q := ⟨_, rfl⟩
  rw [hbS] at y2
  try rw [hbS]
  have lS2 := (Array.getElem?_eq_some_iff.1 y2).1
  have lL2 := (Array.getElem?_eq_some_iff.1 yL2).1
  clear hW2 hbS y1 hB1 bW2 l1 hstb hstz
  have hbL2 := HA.out W2 bL yL2
  have H2 := Lib.hid (And.intro yL2 hB2)
  clear yL2 hB2 HA
  go_upto_region 3 with (fail)
  refine wp_region_lit ?_
  iterate 3 (first | go_guarded | go_step)
  (try simp only [Act.put, List.setIfInBounds_toArray, List.set_cons_zero, List.set_cons_succ])
  refine wpList_load_row rfl 24 (.tmp 2) rfl _ rfl _ #[.int .i64 40, .int .i64 9, .int .i64 200, .int .i64 0, .int .i64 0] (0, 0) _ y2 Try.underlying24 rfl hsti ?_
  (try simp only [Act.put, List.setIfInBounds_toArray, List.set_cons_zero, List.set_cons_succ])
  go_wp2_with fail
  refine Calls.mono hbL2 ?_
  rintro e W3 ⟨A3, m3, c3, rfl, hiv3, -, hb3⟩
  clear hbL2
  obtain rfl : m3 = 2 := by have := hiv3.len; simpa using this.symm
  obtain ⟨W4, hW4, y4, bW4⟩ := newRow W3 wyz #[.slice A3 2 c3, .int .i64 200, .int .i64 0] 37
  have hwi3 : (Try.prog.info? 37).map (·.size) = some (#[Value.slice A3 2 c3, .int .i64 200, .int .i64 0] : Array Value).size := wys
  simp only
  iterate 1 (first | go_guarded | go_step | skip)
  refine wpList_new rfl hwz rfl ?_
  (try simp only [Act.put, List.setIfInBounds_toArray, List.set_cons_zero, List.set_cons_succ])
  refine wpList_store_row rfl 37 (.tmp 3) (.tmp 22) rfl _ #[.slice A3 2 c3, .int .i64 200, .int .i64 0] rfl rfl _ wyz (heap_alloc_new _ _) hwi3 rfl (by simp [Value.oneCell']) ?_
  (try simp only [Act.put, List.setIfInBounds_toArray, List.set_cons_zero, List.set_cons_succ])
  try rw [hW4]
  have hb24 := bNext hb3 bW4
  have yL4 := bBlk hb24 lL2 H2.out.1
  have yS4 := bBlk hb24 lS2 y2
  have hB4 := bNext H2.out.2 hb24
  have hiv4 := hiv3.nxt bW4
  obtain ⟨b3, hb3e⟩ : ∃ q, W3.heap.size = q := ⟨_, rfl⟩
  rw [hb3e] at y4
  try rw [hb3e]
  have l34 := (Array.getElem?_eq_some_iff.1 y4).1
  have lL4 := (Array.getElem?_eq_some_iff.1 yL4).1
  have lS4 := (Array.getElem?_eq_some_iff.1 yS4).1
  clear hW4 hb3e y2 hb24 hb3 bW4 hiv3 hwi3
  have hX4 : Below W4.heap.size W4 (W4.alloc (.cells #[.int .i64 3, .int .i64 7] 3)) := (Below.refl _ _).alloc (Nat.le_refl _) _
  have ht14 := HT1.out _ bL W4.heap.size (bBlk hX4 lL4 yL4) (heap_alloc_new W4 _)
  have H4 := Lib.hid (And.intro yL4 (And.intro hB4 (And.intro hiv4 (And.intro y4 hX4))))
  have yS := yS4
  clear yL4 hB4 hiv4 y4 hX4 yS4 H2 HT1
  go_upto_region 4 with (fail)
  refine wp_region_lit ?_
  iterate 3 (first | go_guarded | go_step)
  (try simp only [Act.put, List.setIfInBounds_toArray, List.set_cons_zero, List.set_cons_succ])
  refine wpList_load_row rfl 24 (.tmp 2) rfl _ rfl _ #[.int .i64 40, .int .i64 9, .int .i64 200, .int .i64 0, .int .i64 0] (0, 0) _ yS Try.underlying24 rfl hsti ?_
  (try simp only [Act.put, List.setIfInBounds_toArray, List.set_cons_zero, List.set_cons_succ])
  refine wpList_slice rfl 25 2 #[(0, .const (.int .i64 3)), (1, .const (.int .i64 7))] rfl (by simp only [List.map_toArray, List.map_cons, List.map_nil]; exact ints2 3 7 _) ?_
  (try simp only [Act.put, List.setIfInBounds_toArray, List.set_cons_zero, List.set_cons_succ])
  go_wp2_with fail
  refine Calls.mono ht14 ?_
  rintro e W5 ⟨rfl, hb5⟩
  clear ht14
  obtain ⟨yL4, hB4, hiv4, y4, hX4⟩ := H4.out
  have hb45 := bNext hX4 hb5
  have yL5 := bBlk hb45 lL4 yL4
  have yS5 := bBlk hb45 lS4 yS
  have y35 := bBlk hb45 l34 y4
  have hB5 := bNext hB4 hb45
  have hiv5 := hiv4.nxt hb45
  have lL5 := (Array.getElem?_eq_some_iff.1 yL5).1
  have lS5 := (Array.getElem?_eq_some_iff.1 yS5).1
  have l35 := (Array.getElem?_eq_some_iff.1 y35).1
  clear yL4 hB4 hiv4 y4 hX4 hb45 hb5 yS H4
  have hX5 : Below W5.heap.size W5 (W5.alloc (.cells #[.int .i64 2, .int .i64 7] 3)) := (Below.refl _ _).alloc (Nat.le_refl _) _
  have ht25 := HT2.out _ bL W5.heap.size (bBlk hX5 lL5 yL5) (heap_alloc_new W5 _)
  have H5 := Lib.hid (And.intro yL5 (And.intro hB5 (And.intro hiv5 (And.intro y35 hX5))))
  have yS := yS5
  clear yL5 hB5 hiv5 y35 hX5 yS5 HT2
  go_upto_region 5 with (fail)
  refine wp_region_lit ?_
  iterate 3 (first | go_guarded | go_step)
  (try simp only [Act.put, List.setIfInBounds_toArray, List.set_cons_zero, List.set_cons_succ])
  refine wpList_load_row rfl 24 (.tmp 2) rfl _ rfl _ #[.int .i64 40, .int .i64 9, .int .i64 200, .int .i64 0, .int .i64 0] (0, 0) _ yS Try.underlying24 rfl hsti ?_
  (try simp only [Act.put, List.setIfInBounds_toArray, List.set_cons_zero, List.set_cons_succ])
  refine wpList_slice rfl 25 2 #[(0, .const (.int .i64 2)), (1, .const (.int .i64 7))] rfl (by simp only [List.map_toArray, List.map_cons, List.map_nil]; exact ints2 2 7 _) ?_
  (try simp only [Act.put, List.setIfInBounds_toArray, List.set_cons_zero, List.set_cons_succ])
  go_wp2_with fail
  refine Calls.mono ht25 ?_
  rintro e W6 ⟨rfl, hb6⟩
  clear ht25
  obtain ⟨yL5, hB5, hiv5, y35, hX5⟩ := H5.out
  have hb56 := bNext hX5 hb6
  have yL6 := bBlk hb56 lL5 yL5
  have yS6 := bBlk hb56 lS5 yS
  have y36 := bBlk hb56 l35 y35
  have hB6 := bNext hB5 hb56
  have hiv6 := hiv5.nxt hb56
  have lL6 := (Array.getElem?_eq_some_iff.1 yL6).1
  have lS6 := (Array.getElem?_eq_some_iff.1 yS6).1
  have l36 := (Array.getElem?_eq_some_iff.1 y36).1
  clear yL5 hB5 hiv5 y35 hX5 hb56 hb6 yS H5
  have H6 := Lib.hid (And.intro yL6 (And.intro hB6 (And.intro hiv6 (And.intro y36 yS6))))
  clear yL6 hB6 hiv6 y36
  go_upto_region 6 with (fail)
  go_cut [10] from 39 to 42 (fun s10 wx => ∃ gs A c, s10 = .pointer (some ⟨gs, 0, none⟩) ∧ wx.heap[gs]? = some (.cells #[.slice A 1 c, .int .i64 1000000000000, .int .i64 1] 37) ∧ IvAt wx wx.heap.size A 1 c [1] ∧ Below W6.heap.size W6 wx)
  case first =>
    let S : World → Prop := fun w' => Below W6.heap.size W6 w'
    have hS0 : S W6.drew := (Below.refl _ _).drew
    have qS : ∀ w', S w' → w'.rangeAt bS 0 [.int .i64 40, .int .i64 9, .int .i64 200, .int .i64 0, .int .i64 0] := fun w' h => But.range (X := fun _ => False) (but_of (show Below W6.heap.size W6 w' from h)) lS6 (fun h => h) (range_blk H6.out.2.2.2.2)
    have hsl5 : (Try.prog.info? 24).map (·.size) = some ([Value.int .i64 40, .int .i64 9, .int .i64 200, .int .i64 0, .int .i64 0] : List Value).length := sty_size
    clear yS6
    refine wp_region_held (S := S) (by kernel_rfl) ?_
    change wpAnyH _ _ _ _ S _ _ _ W6.drew
    refine wpAnyH_take (i := 2) (oi := ?oi_127) (v := ?v_127) ?ho_127 ?h1_127 ?h2_127 ?h3_127 ?hq_127 (Or.inl ⟨?hw_127, ?hy_127⟩) ?hs_127 ?rest_127; (case h2_127 => kernel_rfl); (case h3_127 => kernel_rfl); (case ho_127 => (simp only [List.getElem?_toArray, List.getElem?_cons_zero, List.getElem?_cons_succ]; rfl)); (case h1_127 => kernel_rfl); (case hq_127 => exact fun _ _ _ h => h); (case hw_127 => rfl); (case hy_127 => (intro w' hSw; refine exec_load_row (x := .tmp 2) ?_ ?_ (qS w' hSw) Try.underlying24 ?_ hsl5 <;> rfl)); (case hs_127 => assumption); (try simp only [Act.put, List.setIfInBounds_toArray, List.set_cons_zero, List.set_cons_succ])
    clear qS
    refine wpAnyH_ready (rs := [0, 4]) (by kernel_rfl) (by simp) (AllReadyH.cons (o := ?oo0_128) ?hoo0_128 (fun K hK => ?stepXB0) (AllReadyH.cons (o := ?oo4_128) ?hoo4_128 (fun K hK => ?stepXB4) AllReadyH.nil)); (case hoo0_128 => (simp only [List.getElem?_toArray, List.getElem?_cons_zero, List.getElem?_cons_succ]; rfl)); (case hoo4_128 => (simp only [List.getElem?_toArray, List.getElem?_cons_zero, List.getElem?_cons_succ]; rfl))
    case stepXB0 =>
      go_simp
      refine Calls.mono (HX5.out _) ?_
      rintro e X1a ⟨rfl, hb1⟩
      have hS1 : S X1a := bNext (show Below W6.heap.size W6 W6.drew from hS0) hb1
      refine hK.out _ _ hS1 (fun _ => ?_)
      clear hK K
      (try simp only [Act.put, List.setIfInBounds_toArray, List.set_cons_zero, List.set_cons_succ])
      refine wpAnyH_ready (rs := [1, 4]) (by kernel_rfl) (by simp) (AllReadyH.cons (o := ?oo1_129) ?hoo1_129 (fun K hK => ?stepXCP1) (AllReadyH.cons (o := ?oo4_129) ?hoo4_129 (fun K hK => ?stepXCP4) AllReadyH.nil)); (case hoo1_129 => (simp only [List.getElem?_toArray, List.getElem?_cons_zero, List.getElem?_cons_succ]; rfl)); (case hoo4_129 => (simp only [List.getElem?_toArray, List.getElem?_cons_zero, List.getElem?_cons_succ]; rfl))
      case stepXCP1 =>
        refine step_slice rfl 22 1 #[(0, .tmp 39)] rfl (by simp only [List.map_toArray, List.map_cons, List.map_nil]; exact HSM.out X1a) ?_
        have hb2 : Below X1a.heap.size X1a (X1a.alloc (.cells cm 53)) := (Below.refl _ _).alloc (Nat.le_refl _) _
        have hM2 : (X1a.alloc (.cells cm 53)).heap[X1a.heap.size]? = some (.cells cm 53) := heap_alloc_new _ _
        obtain ⟨X2b, hE2⟩ : ∃ q, (X1a.alloc (.cells cm 53)) = q := ⟨_, rfl⟩
        rw [hE2] at hb2 hM2 ⊢
        clear hE2
        obtain ⟨gm, hgm⟩ : ∃ q, X1a.heap.size = q := ⟨_, rfl⟩
        rw [hgm] at hM2 ⊢
        clear hgm
        have hS2 : S X2b := bNext (show Below W6.heap.size W6 X1a from hS1) hb2
        refine hK.out _ _ hS2 (fun _ => ?_)
        clear hK K
        (try simp only [Act.put, List.setIfInBounds_toArray, List.set_cons_zero, List.set_cons_succ])
        refine wpAnyH_ready (rs := [3, 4]) (by kernel_rfl) (by simp) (AllReadyH.cons (o := ?oo3_130) ?hoo3_130 (fun K hK => ?stepXDPQ3) (AllReadyH.cons (o := ?oo4_130) ?hoo4_130 (fun K hK => ?stepXDPQ4) AllReadyH.nil)); (case hoo3_130 => (simp only [List.getElem?_toArray, List.getElem?_cons_zero, List.getElem?_cons_succ]; rfl)); (case hoo4_130 => (simp only [List.getElem?_toArray, List.getElem?_cons_zero, List.getElem?_cons_succ]; rfl))
        case stepXDPQ3 =>
          go_simp
          refine Calls.mono (HBM.out _ gm hM2) ?_
          rintro e X3d ⟨A9, m9, c9, rfl, hiv3, hf3, hb3⟩
          obtain rfl : m9 = 1 := by have := hiv3.len; simpa using this.symm
          have hS3 : S X3d := bNext (show Below W6.heap.size W6 X2b from hS2) hb3
          refine hK.out _ _ hS3 (fun _ => ?_)
          clear hK K
          (try simp only [Act.put, List.setIfInBounds_toArray, List.set_cons_zero, List.set_cons_succ])
          refine wpAnyH_ready (rs := [4]) (by kernel_rfl) (by simp) (AllReadyH.cons (o := ?oo4_131) ?hoo4_131 (fun K hK => ?steponly131) AllReadyH.nil); (case hoo4_131 => (simp only [List.getElem?_toArray, List.getElem?_cons_zero, List.getElem?_cons_succ]; rfl))
          refine step_new rfl hwz rfl ?_
          have hb4 : Below X3d.heap.size X3d (X3d.alloc (.cells wyz 37)) := (Below.refl _ _).alloc (Nat.le_refl _) _
          have hg4 : (X3d.alloc (.cells wyz 37)).heap[X3d.heap.size]? = some (.cells wyz 37) := heap_alloc_new _ _
          obtain ⟨X4e, hE4⟩ : ∃ q, (X3d.alloc (.cells wyz 37)) = q := ⟨_, rfl⟩
          rw [hE4] at hb4 hg4 ⊢
          clear hE4
          have hS4 : S X4e := bNext (show Below W6.heap.size W6 X3d from hS3) hb4
          have hiv4 := hiv3.nxt hb4
          have hF : ∀ b o i, A9 = some ⟨b, o, i⟩ → b ≠ X3d.heap.size := fun b o i e => by
            obtain ⟨b', o', e', hl', -⟩ := hiv3.sl.at_ (by omega)
            rw [e'] at e
            injection e with e
            injection e with e1
            omega
          obtain ⟨gs, hgs⟩ : ∃ q, X3d.heap.size = q := ⟨_, rfl⟩
          rw [hgs] at hg4 ⊢
          try rw [hgs] at hF
          have hgW : W6.heap.size ≤ gs := by rw [← hgs]; exact (show Below W6.heap.size W6 X3d from hS3).size
          clear hgs
          refine hK.out _ _ hS4 (fun _ => ?_)
          clear hK K
          (try simp only [Act.put, List.setIfInBounds_toArray, List.set_cons_zero, List.set_cons_succ])
          refine wpAnyH_ready (rs := [5]) (by kernel_rfl) (by simp) (AllReadyH.cons (o := ?oo5_132) ?hoo5_132 (fun K hK => ?steponly132) AllReadyH.nil); (case hoo5_132 => (simp only [List.getElem?_toArray, List.getElem?_cons_zero, List.getElem?_cons_succ]; rfl))
          have hcw : (Try.prog.info? 37).map (·.size) = some (#[.slice A9 1 c9, .int .i64 1000000000000, .int .i64 1] : Array Value).size := wys
          refine step_row rfl 37 (.tmp 10) (.tmp 42) rfl gs #[.slice A9 1 c9, .int .i64 1000000000000, .int .i64 1] rfl rfl _ wyz hg4 hcw rfl (by simp [Value.oneCell']) ?_
          have hg9 := setRow_heap X4e gs _ #[.slice A9 1 c9, .int .i64 1000000000000, .int .i64 1] _ _ hg4
          have hb9 := bSetRow (show Below W6.heap.size W6 X4e from hS4) hgW #[.slice A9 1 c9, .int .i64 1000000000000, .int .i64 1]
          obtain ⟨X9, hX9⟩ : ∃ q, X4e.setRow gs #[.slice A9 1 c9, .int .i64 1000000000000, .int .i64 1] = q := ⟨_, rfl⟩
          have hiv9 := IvAt.set2 hiv4 (fun b o i e => by have := hF b o i e; omega) _ hX9
          rw [hX9] at hg9 hb9 ⊢
          clear hX9
          have hS9 : S X9 := hb9
          refine hK.out _ _ hS9 (fun _ => ?_)
          clear hK K
          (try simp only [Act.put, List.setIfInBounds_toArray, List.set_cons_zero, List.set_cons_succ])
          refine wpAnyH_done (by kernel_rfl) ?_ _
          have HE := Lib.hid (And.intro hg9 (And.intro hiv9 hb9))
          clear hg9 hiv9 hb9
          go_wp2_with fail
          go_meet
          case rel => exact ⟨gs, A9, c9, rfl, HE.out.1, HE.out.2.1, HE.out.2.2⟩
        case stepXDPQ4 =>
          refine step_new rfl hwz rfl ?_
          have hb3 : Below X2b.heap.size X2b (X2b.alloc (.cells wyz 37)) := (Below.refl _ _).alloc (Nat.le_refl _) _
          have hg3 : (X2b.alloc (.cells wyz 37)).heap[X2b.heap.size]? = some (.cells wyz 37) := heap_alloc_new _ _
          obtain ⟨X3e, hE3⟩ : ∃ q, (X2b.alloc (.cells wyz 37)) = q := ⟨_, rfl⟩
          rw [hE3] at hb3 hg3 ⊢
          clear hE3
          have hS3 : S X3e := bNext (show Below W6.heap.size W6 X2b from hS2) hb3
          have hM3 := bBlk hb3 (Array.getElem?_eq_some_iff.1 hM2).1 hM2
          obtain ⟨gs, hgs⟩ : ∃ q, X2b.heap.size = q := ⟨_, rfl⟩
          rw [hgs] at hg3 ⊢
          have hgW : W6.heap.size ≤ gs := by rw [← hgs]; exact (show Below W6.heap.size W6 X2b from hS2).size
          clear hgs
          refine hK.out _ _ hS3 (fun _ => ?_)
          clear hK K
          (try simp only [Act.put, List.setIfInBounds_toArray, List.set_cons_zero, List.set_cons_succ])
          refine wpAnyH_ready (rs := [3]) (by kernel_rfl) (by simp) (AllReadyH.cons (o := ?oo3_133) ?hoo3_133 (fun K hK => ?steponly133) AllReadyH.nil); (case hoo3_133 => (simp only [List.getElem?_toArray, List.getElem?_cons_zero, List.getElem?_cons_succ]; rfl))
          go_simp
          refine Calls.mono (HBM.out _ gm hM3) ?_
          rintro e X4d ⟨A9, m9, c9, rfl, hiv4, hf4, hb4⟩
          obtain rfl : m9 = 1 := by have := hiv4.len; simpa using this.symm
          have hS4 : S X4d := bNext (show Below W6.heap.size W6 X3e from hS3) hb4
          have hg4 := bBlk hb4 (Array.getElem?_eq_some_iff.1 hg3).1 hg3
          have hF : ∀ b o i, A9 = some ⟨b, o, i⟩ → gs < b := fun b o i e => by have h1 := hf4 b o i e; have h2 := (Array.getElem?_eq_some_iff.1 hg3).1; omega
          refine hK.out _ _ hS4 (fun _ => ?_)
          clear hK K
          (try simp only [Act.put, List.setIfInBounds_toArray, List.set_cons_zero, List.set_cons_succ])
          refine wpAnyH_ready (rs := [5]) (by kernel_rfl) (by simp) (AllReadyH.cons (o := ?oo5_134) ?hoo5_134 (fun K hK => ?steponly134) AllReadyH.nil); (case hoo5_134 => (simp only [List.getElem?_toArray, List.getElem?_cons_zero, List.getElem?_cons_succ]; rfl))
          have hcw : (Try.prog.info? 37).map (·.size) = some (#[.slice A9 1 c9, .int .i64 1000000000000, .int .i64 1] : Array Value).size := wys
          refine step_row rfl 37 (.tmp 10) (.tmp 42) rfl gs #[.slice A9 1 c9, .int .i64 1000000000000, .int .i64 1] rfl rfl _ wyz hg4 hcw rfl (by simp [Value.oneCell']) ?_
          have hg9 := setRow_heap X4d gs _ #[.slice A9 1 c9, .int .i64 1000000000000, .int .i64 1] _ _ hg4
          have hb9 := bSetRow (show Below W6.heap.size W6 X4d from hS4) hgW #[.slice A9 1 c9, .int .i64 1000000000000, .int .i64 1]
          obtain ⟨X9, hX9⟩ : ∃ q, X4d.setRow gs #[.slice A9 1 c9, .int .i64 1000000000000, .int .i64 1] = q := ⟨_, rfl⟩
          have hiv9 := IvAt.set2 hiv4 (fun b o i e => by have := hF b o i e; omega) _ hX9
          rw [hX9] at hg9 hb9 ⊢
          clear hX9
          have hS9 : S X9 := hb9
          refine hK.out _ _ hS9 (fun _ => ?_)
          clear hK K
          (try simp only [Act.put, List.setIfInBounds_toArray, List.set_cons_zero, List.set_cons_succ])
          refine wpAnyH_done (by kernel_rfl) ?_ _
          have HE := Lib.hid (And.intro hg9 (And.intro hiv9 hb9))
          clear hg9 hiv9 hb9
          go_wp2_with fail
          go_meet
          case rel => exact ⟨gs, A9, c9, rfl, HE.out.1, HE.out.2.1, HE.out.2.2⟩
      case stepXCP4 =>
        refine step_new rfl hwz rfl ?_
        have hb2 : Below X1a.heap.size X1a (X1a.alloc (.cells wyz 37)) := (Below.refl _ _).alloc (Nat.le_refl _) _
        have hg2 : (X1a.alloc (.cells wyz 37)).heap[X1a.heap.size]? = some (.cells wyz 37) := heap_alloc_new _ _
        obtain ⟨X2e, hE2⟩ : ∃ q, (X1a.alloc (.cells wyz 37)) = q := ⟨_, rfl⟩
        rw [hE2] at hb2 hg2 ⊢
        clear hE2
        have hS2 : S X2e := bNext (show Below W6.heap.size W6 X1a from hS1) hb2
        obtain ⟨gs, hgs⟩ : ∃ q, X1a.heap.size = q := ⟨_, rfl⟩
        rw [hgs] at hg2 ⊢
        have hgW : W6.heap.size ≤ gs := by rw [← hgs]; exact (show Below W6.heap.size W6 X1a from hS1).size
        clear hgs
        refine hK.out _ _ hS2 (fun _ => ?_)
        clear hK K
        (try simp only [Act.put, List.setIfInBounds_toArray, List.set_cons_zero, List.set_cons_succ])
        refine wpAnyH_ready (rs := [1]) (by kernel_rfl) (by simp) (AllReadyH.cons (o := ?oo1_135) ?hoo1_135 (fun K hK => ?steponly135) AllReadyH.nil); (case hoo1_135 => (simp only [List.getElem?_toArray, List.getElem?_cons_zero, List.getElem?_cons_succ]; rfl))
        refine step_slice rfl 22 1 #[(0, .tmp 39)] rfl (by simp only [List.map_toArray, List.map_cons, List.map_nil]; exact HSM.out X2e) ?_
        have hb3 : Below X2e.heap.size X2e (X2e.alloc (.cells cm 53)) := (Below.refl _ _).alloc (Nat.le_refl _) _
        have hM3 : (X2e.alloc (.cells cm 53)).heap[X2e.heap.size]? = some (.cells cm 53) := heap_alloc_new _ _
        obtain ⟨X3b, hE3⟩ : ∃ q, (X2e.alloc (.cells cm 53)) = q := ⟨_, rfl⟩
        rw [hE3] at hb3 hM3 ⊢
        clear hE3
        obtain ⟨gm, hgm⟩ : ∃ q, X2e.heap.size = q := ⟨_, rfl⟩
        rw [hgm] at hM3 ⊢
        clear hgm
        have hS3 : S X3b := bNext (show Below W6.heap.size W6 X2e from hS2) hb3
        have hg3 := bBlk hb3 (Array.getElem?_eq_some_iff.1 hg2).1 hg2
        refine hK.out _ _ hS3 (fun _ => ?_)
        clear hK K
        (try simp only [Act.put, List.setIfInBounds_toArray, List.set_cons_zero, List.set_cons_succ])
        refine wpAnyH_ready (rs := [3]) (by kernel_rfl) (by simp) (AllReadyH.cons (o := ?oo3_136) ?hoo3_136 (fun K hK => ?steponly136) AllReadyH.nil); (case hoo3_136 => (simp only [List.getElem?_toArray, List.getElem?_cons_zero, List.getElem?_cons_succ]; rfl))
        go_simp
        refine Calls.mono (HBM.out _ gm hM3) ?_
        rintro e X4d ⟨A9, m9, c9, rfl, hiv4, hf4, hb4⟩
        obtain rfl : m9 = 1 := by have := hiv4.len; simpa using this.symm
        have hS4 : S X4d := bNext (show Below W6.heap.size W6 X3b from hS3) hb4
        have hg4 := bBlk hb4 (Array.getElem?_eq_some_iff.1 hg3).1 hg3
        have hF : ∀ b o i, A9 = some ⟨b, o, i⟩ → gs < b := fun b o i e => by have h1 := hf4 b o i e; have h2 := (Array.getElem?_eq_some_iff.1 hg3).1; omega
        refine hK.out _ _ hS4 (fun _ => ?_)
        clear hK K
        (try simp only [Act.put, List.setIfInBounds_toArray, List.set_cons_zero, List.set_cons_succ])
        refine wpAnyH_ready (rs := [5]) (by kernel_rfl) (by simp) (AllReadyH.cons (o := ?oo5_137) ?hoo5_137 (fun K hK => ?steponly137) AllReadyH.nil); (case hoo5_137 => (simp only [List.getElem?_toArray, List.getElem?_cons_zero, List.getElem?_cons_succ]; rfl))
        have hcw : (Try.prog.info? 37).map (·.size) = some (#[.slice A9 1 c9, .int .i64 1000000000000, .int .i64 1] : Array Value).size := wys
        refine step_row rfl 37 (.tmp 10) (.tmp 42) rfl gs #[.slice A9 1 c9, .int .i64 1000000000000, .int .i64 1] rfl rfl _ wyz hg4 hcw rfl (by simp [Value.oneCell']) ?_
        have hg9 := setRow_heap X4d gs _ #[.slice A9 1 c9, .int .i64 1000000000000, .int .i64 1] _ _ hg4
        have hb9 := bSetRow (show Below W6.heap.size W6 X4d from hS4) hgW #[.slice A9 1 c9, .int .i64 1000000000000, .int .i64 1]
        obtain ⟨X9, hX9⟩ : ∃ q, X4d.setRow gs #[.slice A9 1 c9, .int .i64 1000000000000, .int .i64 1] = q := ⟨_, rfl⟩
        have hiv9 := IvAt.set2 hiv4 (fun b o i e => by have := hF b o i e; omega) _ hX9
        rw [hX9] at hg9 hb9 ⊢
        clear hX9
        have hS9 : S X9 := hb9
        refine hK.out _ _ hS9 (fun _ => ?_)
        clear hK K
        (try simp only [Act.put, List.setIfInBounds_toArray, List.set_cons_zero, List.set_cons_succ])
        refine wpAnyH_done (by kernel_rfl) ?_ _
        have HE := Lib.hid (And.intro hg9 (And.intro hiv9 hb9))
        clear hg9 hiv9 hb9
        go_wp2_with fail
        go_meet
        case rel => exact ⟨gs, A9, c9, rfl, HE.out.1, HE.out.2.1, HE.out.2.2⟩
    case stepXB4 =>
      refine step_new rfl hwz rfl ?_
      have hb1 : Below W6.drew.heap.size W6.drew (W6.drew.alloc (.cells wyz 37)) := (Below.refl _ _).alloc (Nat.le_refl _) _
      have hg1 : (W6.drew.alloc (.cells wyz 37)).heap[W6.drew.heap.size]? = some (.cells wyz 37) := heap_alloc_new _ _
      obtain ⟨X1e, hE1⟩ : ∃ q, (W6.drew.alloc (.cells wyz 37)) = q := ⟨_, rfl⟩
      rw [hE1] at hb1 hg1 ⊢
      clear hE1
      have hS1 : S X1e := bNext (show Below W6.heap.size W6 W6.drew from hS0) hb1
      obtain ⟨gs, hgs⟩ : ∃ q, W6.drew.heap.size = q := ⟨_, rfl⟩
      rw [hgs] at hg1 ⊢
      have hgW : W6.heap.size ≤ gs := by rw [← hgs]; exact (show Below W6.heap.size W6 W6.drew from hS0).size
      clear hgs
      refine hK.out _ _ hS1 (fun _ => ?_)
      clear hK K
      (try simp only [Act.put, List.setIfInBounds_toArray, List.set_cons_zero, List.set_cons_succ])
      refine wpAnyH_ready (rs := [0]) (by kernel_rfl) (by simp) (AllReadyH.cons (o := ?oo0_138) ?hoo0_138 (fun K hK => ?steponly138) AllReadyH.nil); (case hoo0_138 => (simp only [List.getElem?_toArray, List.getElem?_cons_zero, List.getElem?_cons_succ]; rfl))
      go_simp
      refine Calls.mono (HX5.out _) ?_
      rintro e X2a ⟨rfl, hb2⟩
      have hS2 : S X2a := bNext (show Below W6.heap.size W6 X1e from hS1) hb2
      have hg2 := bBlk hb2 (Array.getElem?_eq_some_iff.1 hg1).1 hg1
      refine hK.out _ _ hS2 (fun _ => ?_)
      clear hK K
      (try simp only [Act.put, List.setIfInBounds_toArray, List.set_cons_zero, List.set_cons_succ])
      refine wpAnyH_ready (rs := [1]) (by kernel_rfl) (by simp) (AllReadyH.cons (o := ?oo1_139) ?hoo1_139 (fun K hK => ?steponly139) AllReadyH.nil); (case hoo1_139 => (simp only [List.getElem?_toArray, List.getElem?_cons_zero, List.getElem?_cons_succ]; rfl))
      refine step_slice rfl 22 1 #[(0, .tmp 39)] rfl (by simp only [List.map_toArray, List.map_cons, List.map_nil]; exact HSM.out X2a) ?_
      have hb3 : Below X2a.heap.size X2a (X2a.alloc (.cells cm 53)) := (Below.refl _ _).alloc (Nat.le_refl _) _
      have hM3 : (X2a.alloc (.cells cm 53)).heap[X2a.heap.size]? = some (.cells cm 53) := heap_alloc_new _ _
      obtain ⟨X3b, hE3⟩ : ∃ q, (X2a.alloc (.cells cm 53)) = q := ⟨_, rfl⟩
      rw [hE3] at hb3 hM3 ⊢
      clear hE3
      obtain ⟨gm, hgm⟩ : ∃ q, X2a.heap.size = q := ⟨_, rfl⟩
      rw [hgm] at hM3 ⊢
      clear hgm
      have hS3 : S X3b := bNext (show Below W6.heap.size W6 X2a from hS2) hb3
      have hg3 := bBlk hb3 (Array.getElem?_eq_some_iff.1 hg2).1 hg2
      refine hK.out _ _ hS3 (fun _ => ?_)
      clear hK K
      (try simp only [Act.put, List.setIfInBounds_toArray, List.set_cons_zero, List.set_cons_succ])
      refine wpAnyH_ready (rs := [3]) (by kernel_rfl) (by simp) (AllReadyH.cons (o := ?oo3_140) ?hoo3_140 (fun K hK => ?steponly140) AllReadyH.nil); (case hoo3_140 => (simp only [List.getElem?_toArray, List.getElem?_cons_zero, List.getElem?_cons_succ]; rfl))
      go_simp
      refine Calls.mono (HBM.out _ gm hM3) ?_
      rintro e X4d ⟨A9, m9, c9, rfl, hiv4, hf4, hb4⟩
      obtain rfl : m9 = 1 := by have := hiv4.len; simpa using this.symm
      have hS4 : S X4d := bNext (show Below W6.heap.size W6 X3b from hS3) hb4
      have hg4 := bBlk hb4 (Array.getElem?_eq_some_iff.1 hg3).1 hg3
      have hF : ∀ b o i, A9 = some ⟨b, o, i⟩ → gs < b := fun b o i e => by have h1 := hf4 b o i e; have h2 := (Array.getElem?_eq_some_iff.1 hg3).1; omega
      refine hK.out _ _ hS4 (fun _ => ?_)
      clear hK K
      (try simp only [Act.put, List.setIfInBounds_toArray, List.set_cons_zero, List.set_cons_succ])
      refine wpAnyH_ready (rs := [5]) (by kernel_rfl) (by simp) (AllReadyH.cons (o := ?oo5_141) ?hoo5_141 (fun K hK => ?steponly141) AllReadyH.nil); (case hoo5_141 => (simp only [List.getElem?_toArray, List.getElem?_cons_zero, List.getElem?_cons_succ]; rfl))
      have hcw : (Try.prog.info? 37).map (·.size) = some (#[.slice A9 1 c9, .int .i64 1000000000000, .int .i64 1] : Array Value).size := wys
      refine step_row rfl 37 (.tmp 10) (.tmp 42) rfl gs #[.slice A9 1 c9, .int .i64 1000000000000, .int .i64 1] rfl rfl _ wyz hg4 hcw rfl (by simp [Value.oneCell']) ?_
      have hg9 := setRow_heap X4d gs _ #[.slice A9 1 c9, .int .i64 1000000000000, .int .i64 1] _ _ hg4
      have hb9 := bSetRow (show Below W6.heap.size W6 X4d from hS4) hgW #[.slice A9 1 c9, .int .i64 1000000000000, .int .i64 1]
      obtain ⟨X9, hX9⟩ : ∃ q, X4d.setRow gs #[.slice A9 1 c9, .int .i64 1000000000000, .int .i64 1] = q := ⟨_, rfl⟩
      have hiv9 := IvAt.set2 hiv4 (fun b o i e => by have := hF b o i e; omega) _ hX9
      rw [hX9] at hg9 hb9 ⊢
      clear hX9
      have hS9 : S X9 := hb9
      refine hK.out _ _ hS9 (fun _ => ?_)
      clear hK K
      (try simp only [Act.put, List.setIfInBounds_toArray, List.set_cons_zero, List.set_cons_succ])
      refine wpAnyH_done (by kernel_rfl) ?_ _
      have HE := Lib.hid (And.intro hg9 (And.intro hiv9 hb9))
      clear hg9 hiv9 hb9
      go_wp2_with fail
      go_meet
      case rel => exact ⟨gs, A9, c9, rfl, HE.out.1, HE.out.2.1, HE.out.2.2⟩
  case rest =>
    obtain ⟨gs, A9, c9, rfl, hg9, hiv9, hb9⟩ := hcut
    rename World => X
    obtain ⟨yL6, hB6, hiv6, y36, yS60⟩ := H6.out
    have yL := bBlk hb9 lL6 yL6
    have yS := bBlk hb9 lS6 yS60
    have y3 := bBlk hb9 l36 y36
    have hB := bNext hB6 hb9
    have hiv3 := hiv6.nxt hb9
    have lL := (Array.getElem?_eq_some_iff.1 yL).1
    have lS := (Array.getElem?_eq_some_iff.1 yS).1
    have l3 := (Array.getElem?_eq_some_iff.1 y3).1
    have l9 := (Array.getElem?_eq_some_iff.1 hg9).1
    clear yL6 hB6 hiv6 y36 yS60 H6 hb9 HSM HX5 HBM hwz yS6
    have k30 : X.cell? ⟨b3, 0, none⟩ = some (.slice A3 2 c3) := blk_cell y3 rfl
    have hX1 : Below X.heap.size X (X.alloc (.cells #[.int .i64 3, .int .i64 7] 3)) := (Below.refl _ _).alloc (Nat.le_refl _) _
    have hn1 := heap_alloc_new X (.cells #[.int .i64 3, .int .i64 7] 3)
    obtain ⟨X1, hX1e⟩ : ∃ q, X.alloc (.cells #[.int .i64 3, .int .i64 7] 3) = q := ⟨_, rfl⟩
    obtain ⟨g1, hg1⟩ : ∃ q, X.heap.size = q := ⟨_, rfl⟩
    have hr1 : (Instr.buildSlice 25 2 #[(0, .int .i64 3), (1, .int .i64 7)]).run Try.prog X = .ok (.slice (some ⟨g1, 0, none⟩) 2 2) X1 := by rw [← hX1e, ← hg1]; exact ints2 3 7 X
    rw [hX1e] at hX1 hn1
    rw [hg1] at hn1
    have hI1 := ints_same (A := A3) (B := some ⟨g1, 0, none⟩) (n := 2) (c := c3) (c' := 2) (xs := [3, 7]) (by decide) (w := X1) (hiv3.nxt hX1).sl (Sl.new (sz := 1) (n := 2) hn1 rfl)
    have H7 := Lib.hid (And.intro yL (And.intro yS (And.intro y3 (And.intro hB (And.intro hg9 (And.intro hiv9 hX1))))))
    clear yL yS y3 hB hg9 hiv9 hiv3 hX1 hn1 hX1e hg1
    go_upto_region 7 with (fail)
    refine wp_region_lit ?_
    iterate 6 (first | go_guarded | go_step)
    (try simp only [Act.put, List.setIfInBounds_toArray, List.set_cons_zero, List.set_cons_succ])
    refine wpList_slice rfl 25 2 #[(0, .const (.int .i64 3)), (1, .const (.int .i64 7))] rfl (by simp only [List.map_toArray, List.map_cons, List.map_nil]; exact hr1) ?_
    (try simp only [Act.put, List.setIfInBounds_toArray, List.set_cons_zero, List.set_cons_succ])
    clear hr1 k30
    go_wp2_with fail
    refine Calls.mono hI1 ?_
    rintro e X2 ⟨rfl, hbI⟩
    clear hI1
    obtain ⟨yL, yS, y3, hB, hg9, hiv9, hX1⟩ := H7.out
    have hb2 := bNext hX1 hbI
    have k31 : X2.cell? ⟨b3, 1, none⟩ = some (.int .i64 200) := blk_cell (bBlk hb2 l3 y3) rfl
    have k32 : X2.cell? ⟨b3, 2, none⟩ = some (.int .i64 0) := blk_cell (bBlk hb2 l3 y3) rfl
    have yS2 := bBlk hb2 lS yS
    have yL2 := bBlk hb2 lL yL
    have g92 := bBlk hb2 l9 hg9
    have iv2 := hiv9.nxt hb2
    have hB2 := bNext hB hb2
    have l92 := (Array.getElem?_eq_some_iff.1 g92).1
    have lS2' := (Array.getElem?_eq_some_iff.1 yS2).1
    have lL2' := (Array.getElem?_eq_some_iff.1 yL2).1
    have hX3 : Below X2.heap.size X2 (X2.alloc (.cells #[.int .i64 3, .int .i64 7] 3)) := (Below.refl _ _).alloc (Nat.le_refl _) _
    have hmy := HM1.out _ bL X2.heap.size (bBlk hX3 lL2' yL2) (heap_alloc_new X2 (.cells #[.int .i64 3, .int .i64 7] 3))
    have hr2 := ints2 3 7 X2
    obtain ⟨X3, hX3e⟩ : ∃ q, X2.alloc (.cells #[.int .i64 3, .int .i64 7] 3) = q := ⟨_, rfl⟩
    rw [hX3e] at hX3 hmy hr2
    have H8 := Lib.hid (And.intro yS2 (And.intro g92 (And.intro iv2 (And.intro hB2 hX3))))
    clear yL yS y3 hB hg9 hiv9 hX1 hb2 hbI yL2 g92 iv2 hB2 hX3 H7 HM1 hX3e
    go_wp2_with (first | (refine wpList_load_row_g (by simp [Region.wanted, yielded, Act.put]) 24 (.tmp 2) rfl _ rfl _ #[.int .i64 40, .int .i64 9, .int .i64 200, .int .i64 0, .int .i64 0] (0, 0) _ yS2 Try.underlying24 rfl hsti ?_) | fail)
    clear hr2 k31 k32
    refine Calls.mono hmy ?_
    rintro e X4 ⟨rfl, hbM⟩
    clear hmy yS2
    obtain ⟨yS2, g92, iv2, hB2, hX3⟩ := H8.out
    have hb4 := bNext hX3 hbM
    have g94 := bBlk hb4 l92 g92
    have yS4' := bBlk hb4 lS2' yS2
    have iv4 := iv2.nxt hb4
    have hB4 := bNext hB2 hb4
    have k90 : X4.cell? ⟨gs, 0, none⟩ = some (.slice A9 1 c9) := blk_cell g94 rfl
    have l94 := (Array.getElem?_eq_some_iff.1 g94).1
    have lS4' := (Array.getElem?_eq_some_iff.1 yS4').1
    have hX5 : Below X4.heap.size X4 (X4.alloc (.cells #[.int .i64 1] 3)) := (Below.refl _ _).alloc (Nat.le_refl _) _
    have hn5 := heap_alloc_new X4 (.cells #[.int .i64 1] 3)
    have hr5 := ints1 1 X4
    obtain ⟨X5, hX5e⟩ : ∃ q, X4.alloc (.cells #[.int .i64 1] 3) = q := ⟨_, rfl⟩
    obtain ⟨g5, hg5⟩ : ∃ q, X4.heap.size = q := ⟨_, rfl⟩
    rw [hX5e, hg5] at hr5
    rw [hX5e] at hX5 hn5
    rw [hg5] at hn5
    have hI5 := ints_same (A := A9) (B := some ⟨g5, 0, none⟩) (n := 1) (c := c9) (c' := 1) (xs := [1]) (by decide) (w := X5) (iv4.nxt hX5).sl (Sl.new (sz := 1) (n := 1) hn5 rfl)
    have H9 := Lib.hid (And.intro yS4' (And.intro g94 (And.intro hB4 hX5)))
    clear yS2 g92 iv2 hB2 hX3 hb4 hbM g94 yS4' iv4 hB4 hX5 hn5 hX5e hg5 H8
    go_wp2_with fail
    clear hr5 k90
    refine Calls.mono hI5 ?_
    rintro e X6 ⟨rfl, hbI⟩
    clear hI5
    obtain ⟨yS4', g94, hB4, hX5⟩ := H9.out
    have hb6 := bNext hX5 hbI
    have k61 : X6.cell? ⟨gs, 1, none⟩ = some (.int .i64 1000000000000) := blk_cell (bBlk hb6 l94 g94) rfl
    have k62 : X6.cell? ⟨gs, 2, none⟩ = some (.int .i64 1) := blk_cell (bBlk hb6 l94 g94) rfl
    have yS6' := bBlk hb6 lS4' yS4'
    have hB6' := Lib.hid (bNext hB4 hb6)
    have hb0' := HB0.out X6
    clear yS4' g94 hB4 hX5 hb6 hbI H9 HB0
    go_wp2_with (first | (refine wpList_load_row_g (by simp [Region.wanted, yielded, Act.put]) 24 (.tmp 2) rfl _ rfl _ #[.int .i64 40, .int .i64 9, .int .i64 200, .int .i64 0, .int .i64 0] (0, 0) _ yS6' Try.underlying24 rfl hsti ?_) | fail)
    refine Calls.mono hb0' ?_
    rintro e X7 ⟨A7, m7, c7, rfl, hiv7, -, hb7⟩
    clear hb0' k61 k62 yS6'
    obtain rfl : m7 = 0 := by have := hiv7.len; simpa using this.symm
    have HB7 := Lib.hid (bNext hB6'.out hb7)
    have hfd : (Instr.field 37 (.agg #[.slice A7 0 c7, .int .i64 0, .int .i64 0]) 0).run Try.prog X7 = .ok (.slice A7 0 c7) X7 := by kernel_rfl
    clear hiv7 hb7 hB6'
    go_wp2_with fail
    go_returns
    exact Ret.mk rfl HB7.out
end Go.Proofs.Ytnojikbecohhfaa

