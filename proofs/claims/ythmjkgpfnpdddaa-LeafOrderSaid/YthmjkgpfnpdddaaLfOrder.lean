/- The walk over LeafOrder. (s7/lforder.py writes it.) -/
import Derived.Test.YthmjkgpfnpdddaaLfWakes
import Derived.Test.YthmjkgpfnpdddaaLfArg
import Derived.Test.YthmjkgpfnpdddaaLfRef1
namespace Go.Proofs.Ythmjkgpfnpdddaa
set_option linter.unusedSimpArgs false
set_option linter.unusedVariables false
open Go.RowKit Go.ChangeShapes Go.WideShapes Go.Sort

theorem one_ens (l : List EN) : ∀ u ∈ ens l, u.oneCell' = true := by
  intro u hu
  obtain ⟨x, -, hx⟩ := List.mem_flatMap.1 hu
  exact one_en x u hx
theorem ens_app (a b : List EN) : ens (a ++ b) = ens a ++ ens b := by simp [ens, List.flatMap_append]
theorem lf_tail {w : World} {B b o n c : Nat} {x : EN} {l : List EN} (h : LfAt w B (some ⟨b, o, none⟩) n c (x :: l)) : LfAt w B (some ⟨b, o + 35, none⟩) (n - 1) (c - 1) l := by
  have hl := h.len
  have hx := (h.ok x (by simp)).len
  rw [List.length_cons] at hl
  have hc := h.cap
  refine ⟨fun y hy => h.ok y (by simp [hy]), by omega, ⟨?_, fun h0 => ?_⟩, by omega⟩
  · have := h.sl.len
    simp only [ens, List.flatMap_cons, List.length_append] at this ⊢
    rw [hx] at this
    have h2 : n * 35 = (n - 1) * 35 + 35 := by rw [← Nat.succ_mul]; congr 1; omega
    omega
  · obtain ⟨b', o', e, hb, hr⟩ := h.sl.at_ (by omega)
    simp only [Option.some.injEq, Addr.mk.injEq, and_true] at e
    obtain ⟨rfl, rfl⟩ := e
    refine ⟨b, o + 35, rfl, hb, fun j v hj => ?_⟩
    rw [Nat.add_assoc]
    refine hr (35 + j) v ?_
    rw [ens, List.flatMap_cons, List.getElem?_append_right (by omega), hx, Nat.add_sub_cancel_left]
    exact hj
theorem lf_head {w : World} {B b o n c : Nat} {x : EN} {l : List EN} (h : LfAt w B (some ⟨b, o, none⟩) n c (x :: l)) : LfAt w B (some ⟨b, o, none⟩) 1 c [x] := by
  have hl := h.len
  have hx := (h.ok x (by simp)).len
  rw [List.length_cons] at hl
  have hc := h.cap
  refine ⟨fun y hy => h.ok y (by simp at hy; simp [hy]), rfl, ⟨by simp [ens, hx], fun _ => ?_⟩, by omega⟩
  obtain ⟨b', o', e, hb, hr⟩ := h.sl.at_ (by omega)
  simp only [Option.some.injEq, Addr.mk.injEq, and_true] at e
  obtain ⟨rfl, rfl⟩ := e
  refine ⟨b, o, rfl, hb, fun j v hj => hr j v ?_⟩
  simp only [ens, List.flatMap_cons, List.flatMap_nil, List.append_nil] at hj
  rw [ens, List.flatMap_cons, List.getElem?_append_left (List.getElem?_eq_some_iff.1 hj).1]
  exact hj
theorem wpList_slice1 {P : Program} {ops : Array Oper} {rest : List Oper} {o : Oper} {a : Act} {w w' : World} {Q : Exit → Act → World → Prop} (hgd : o.guard = none) (t : TypeId) (k : Nat) (parts : Array (Nat × Operand)) (ho : o.op = .buildSlice t k parts) {v : Value}
    (hrun : (Instr.buildSlice t k (parts.map fun (i, x) => (i, a.eval x))).run P w = .ok v w') (h : wpList P ops Q rest (a.put o.dst v) w') : wpList P ops Q (o :: rest) a w :=
  wpList_slice hgd t k parts ho hrun h
theorem nil_slice (w : World) : (Instr.buildSlice 49 0 #[]).run Try.prog w = .ok (.slice (some ⟨w.heap.size, 0, none⟩) 0 0) (w.alloc (.cells #[] 73)) := by
  go_simp
attribute [-go_sem] Builtin.append_
attribute [-go_sem] Instr.buildSlice
set_option maxRecDepth 100000 in
theorem order_no {A : Option Addr} {n c : Nat} {l : List EN} (w : World) (hl : LfAt w w.heap.size A n c l) (hn : n ≤ 9223372036854775807) (h : goodE l = false ∨ (goodE l = true ∧ n < 2)) :
    Calls Try.prog 12 #[.slice A n c] w (Ret w (.bool true)) := by
  have hrg := rgood_any w hl hn
  clear hl
  go_enter Try.func12, Try.ntmps12
  rcases h with h | ⟨h, h2⟩
  · rw [h] at hrg
    clear h
    go_wp2_with fail
    refine Calls.mono hrg ?_
    rintro e W1 ⟨rfl, hb1⟩
    have HB := Lib.hid hb1
    clear hb1 hrg
    go_wp2_with (first
      | (go_at_call 23; refine Calls.mono (wakes05_any _) ?_; rintro e W3 ⟨rfl, hb3⟩)
      | fail)
    go_ret
    exact Ret.mk rfl (bNext HB.out hb3)
  · rw [h] at hrg
    clear h
    have q1 : (n : Int) < 2 := by omega
    go_wp2_with fail
    refine Calls.mono hrg ?_
    rintro e W1 ⟨rfl, hb1⟩
    have HB := Lib.hid hb1
    clear hb1 hrg
    go_wp2_with (first
      | (go_at_call 23; refine Calls.mono (wakes05_any _) ?_; rintro e W3 ⟨rfl, hb3⟩)
      | fail)
    go_ret
    exact Ret.mk rfl (bNext HB.out hb3)
set_option maxHeartbeats 16000000 in
set_option maxRecDepth 100000 in
theorem order_core {A : Option Addr} {n c : Nat} {l : List EN} (w : World) (hl : LfAt w w.heap.size A n c l) (hcm : c ≤ maxLen) (hg : goodE l = true) (h2 : 2 ≤ n) :
    Calls Try.prog 12 #[.slice A n c] w (Ret w (.bool true)) := by
  have hln := hl.len
  have h3 : n ≤ 3 := by have := (goodE_parts hg).1.2; omega
  have hrg := rgood_any w hl (by omega)
  rw [hg] at hrg
  obtain ⟨x, hx0⟩ : ∃ x, l[0]? = some x := ⟨_, List.getElem?_eq_getElem (by omega)⟩
  obtain ⟨lt, hlt⟩ : ∃ t, l = x :: t := by
    cases l with
    | nil => simp at hx0
    | cons y t => simp at hx0; subst hx0; exact ⟨t, rfl⟩
  have hxo := hl.ok x (List.mem_of_getElem? hx0)
  have g1 := good_rev hg (by omega)
  have g2 := good_tail hg (by omega)
  have g3 := good_head hg (by omega)
  have g4 : goodE (l ++ l) = false := good_more (by omega)
  have g5 := good_twice x
  rw [hlt, List.drop_succ_cons, List.drop_zero] at g2
  rw [hlt, List.take_succ_cons, List.take_zero] at g3
  obtain ⟨b, o, rfl, hbB, hxr0⟩ := hl.entry hx0
  rw [Nat.zero_mul, Nat.add_zero] at hxr0
  have hcap := hl.cap
  have hoks : ∀ x ∈ l, x.Ok := hl.ok
  have HG := Lib.hid (And.intro g1 (And.intro g2 (And.intro g3 (And.intro g4 g5))))
  have HL := Lib.hid (And.intro hl (And.intro hlt (And.intro hxr0 (And.intro hln hoks))))
  clear g1 g2 g3 g4 g5 hl hlt hxr0 hg hx0 hln hoks
  have q1 : ¬ (n : Int) < 2 := by omega
  go_enter Try.func12, Try.ntmps12
  go_wp2_with fail
  refine Calls.mono hrg ?_
  rintro e W ⟨rfl, hbW⟩
  have HW := Lib.hid hbW
  have hbW1 : b < W.heap.size := by have := hbW.size; omega
  clear hbW hrg
  have q2 : IntKind.i64.wrap ((n : Int) - 1) = (n : Int) - 1 := wrap_small _ (by omega) (by omega)
  go_upto_region 4 with (fail)
  go_wp2_with fail
  go_loopw [3, 4] (fun sb si wr => ∃ j : Nat, j ≤ n ∧ si = .int .i64 ((n : Int) - 1 - (j : Int)) ∧ wr.ownsRow W.heap.size 73 35 sb j (ens (l.reverse.take j)) ∧ Below W.heap.size W wr) (fun _ i _ => (intOf i + 1).toNat)
  case atStart => exact ⟨0, by omega, by go_num, World.ownsRow_nil _ _ _ _, Below.refl _ _⟩
  case round =>
    obtain ⟨j, hj, rfl, hown, hbr⟩ := hrel
    obtain ⟨A3, c3, rfl, hc3⟩ := own_form hown
    by_cases hjn : j < n
    · obtain ⟨i, hi⟩ : ∃ i : Nat, n - 1 - j = i := ⟨_, rfl⟩
      have e : (n : Int) - 1 - (j : Int) = (i : Int) := by omega
      rw [e]
      obtain ⟨y, hy⟩ : ∃ y, l[i]? = some y := ⟨_, List.getElem?_eq_getElem (by rw [HL.out.2.2.2.1]; omega)⟩
      have hyo := HL.out.2.2.2.2 y (List.mem_of_getElem? hy)
      obtain ⟨b', o', e', hbB', hyr⟩ := HL.out.1.entry hy
      simp only [Option.some.injEq, Addr.mk.injEq, and_true] at e'
      obtain ⟨rfl, rfl⟩ := e'
      replace hyr := bRange hbr hbW1 (bRange HW.out hbB hyr)
      have hts : ens (l.reverse.take (j + 1)) = ens (l.reverse.take j) ++ y.cells := by
        have hr : l.reverse[j]? = some y := by rw [List.getElem?_reverse (by rw [HL.out.2.2.2.1]; exact hjn), HL.out.2.2.2.1, hi]; exact hy
        obtain ⟨hk, hk2⟩ := List.getElem?_eq_some_iff.1 hr
        rw [List.take_succ_eq_append_getElem hk, ens_app, hk2]
        simp [ens]
      have hzr := hbr.size
      have hin : (i : Int) < (n : Int) := by omega
      have hi0 : (0 : Int) ≤ (i : Int) := by omega
      have hyl := hyo.len
      have hyi := en_linfo hyo
      have honeY := one_en y
      obtain ⟨cl, hcl⟩ : ∃ q, y.cells = q := ⟨_, rfl⟩
      rw [hcl] at hyr hyl hyi honeY hts
      have hbs := run_slice1 (P := Try.prog) (t := 49) enZ Try.underlying49 (by rw [List.size_toArray, en0_ok.len]) (by omega) (by omega) cl hyl wr
      have hcS := Sl.new (sz := 35) (n := 1) (heap_alloc_new wr (.cells cl.toArray 73)) (by simpa using hyl)
      have HR := Lib.hid (And.intro hbr (And.intro hts (And.intro hi e)))
      clear hbr hts hy hyo hi e hcl hxo
      go_upto_region 7 with (fail)
      refine wp_region_lit ?_
      iterate 12 (first | go_guarded | go_step)
      refine wpList_load_mid rfl 73 (.tmp 28) rfl b (o + i * 35) rfl cl _ hyr Try.underlying73 rfl hyi ?_
      (try simp only [Act.put, List.setIfInBounds_toArray, List.set_cons_zero, List.set_cons_succ])
      refine wpList_slice1 (v := .slice (some ⟨wr.heap.size, 0, none⟩) 1 1) (w' := wr.alloc (.cells cl.toArray 73)) rfl 49 1 #[(0, .tmp 29)] rfl (by simp only [List.map_toArray, List.map_cons, List.map_nil]; exact hbs) ?_
      (try simp only [Act.put, List.setIfInBounds_toArray, List.set_cons_zero, List.set_cons_succ])
      refine wpList_app _ rfl (.tmp 25) (.tmp 30) 49 rfl (base := W.heap.size) Try.underlying49 elemE rfl (hown.alloc _) rfl hcS (by simpa using honeY) (by simp only [maxLen]; omega) (by omega) (by simp; omega) ?_
      intro A20 c20 w20 hown4 hg4 hb4 hat4
      (try simp only [Act.put, List.setIfInBounds_toArray, List.set_cons_zero, List.set_cons_succ])
      have hB4 := (HR.out.1.alloc hzr (.cells cl.toArray 73)).trans hb4
      have hown5 : w20.ownsRow W.heap.size 73 35 (.slice A20 (j + 1) c20) (j + 1) (ens (l.reverse.take (j + 1))) := by rw [HR.out.2.1]; exact hown4
      have HF := Lib.hid (And.intro hown5 hB4)
      clear hown4 hg4 hb4 hat4 hB4 hown5 hown hcS hbs hyr
      have w1 : IntKind.i64.wrap ((i : Int) - 1) = (i : Int) - 1 := by
        have := HR.out.2.2.1
        exact IntWalk.i64_in _ (by omega)
      go_wp2_with fail
      refine ⟨⟨j + 1, by omega, ?_, HF.out.1, HF.out.2⟩, ?_⟩
      · have := HR.out.2.2.2
        congr 1
        omega
      · simp [intOf]
    · obtain rfl : j = n := by omega
      rw [show (j : Int) - 1 - (j : Int) = -1 by omega]
      obtain ⟨hl, hlt, hxr0, hln, hoks⟩ := HL.out
      have hrl : l.reverse.length = j := by rw [List.length_reverse, hln]
      rw [List.take_of_length_le (by omega)] at hown
      have hB := bNext HW.out hbr
      have hbk : LfAt wr wr.heap.size A3 j c3 l.reverse := ⟨fun y hy => hoks y (by simpa using hy), hrl, Sl.of_own hown, hc3.1⟩
      have hlr := hl.nxt hB
      have hlx := hlr
      rw [hlt] at hlx
      obtain ⟨g1, g2, g3, g4, g5⟩ := HG.out
      have hc1 := fun W' (h : Below wr.heap.size wr W') => lgood_any W' (hbk.nxt h)
      have hc3' := fun W' (h : Below wr.heap.size wr W') => lgood_any W' ((lf_tail hlx).nxt h)
      have hc4 := fun W' (h : Below wr.heap.size wr W') => lgood_any W' ((lf_head hlx).nxt h)
      simp only [g1] at hc1
      simp only [g2] at hc3'
      simp only [g3] at hc4
      have exx := ens_two x x
      have hxi := en_linfo hxo
      have hsx := fun W' => run_slice2 (P := Try.prog) (t := 49) enZ Try.underlying49 (by rw [List.size_toArray, en0_ok.len]) (by omega) (by omega) x.cells x.cells hxo.len hxo.len W'
      have hbl : b < wr.heap.size := by have := hbr.size; omega
      have hxrw := bRange hB hbB hxr0
      obtain ⟨cx, hcx⟩ : ∃ q, x.cells = q := ⟨_, rfl⟩
      rw [hcx] at exx hxi hxrw
      simp only [hcx] at hsx
      have hc2 : ∀ W' g, W'.heap[g]? = some (.cells (cx ++ cx).toArray 73) → Calls Try.prog 32 #[.slice (some ⟨g, 0, none⟩) 2 2] W' (Ret W' (.bool false)) := fun W' g h => by
        have := lgood_any W' (two_at h exx.symm hxo hxo)
        rw [g5] at this
        exact this
      have HK := Lib.hid (And.intro hB (And.intro hbk (And.intro hlr (And.intro g1 (And.intro g4 (And.intro hoks hln))))))
      have HCC := Lib.hid (And.intro hc1 (And.intro hc2 (And.intro hc3' hc4)))
      have HSX := Lib.hid hsx
      have hj1 : (1 : Int) ≤ (j : Int) := by omega
      have hj0 : 0 < j := by omega
      have hj0' : (0 : Int) < (j : Int) := by omega
      have hc1n : ¬ c = 1 := by omega
      have hc1i : (1 : Int) ≤ (c : Int) := by omega
      clear hl hlt hxr0 hln hoks hrl hown hB hbk hlr hlx g1 g2 g3 g4 g5 hc1 hc2 hc3' hc4 hsx exx hcx hbr hxo
      go_upto_region 8 with (fail)
      let S : World → Prop := fun w' => Below wr.heap.size wr w'
      have hS0 : S wr.drew := (Below.refl _ _).drew
      have rx : ∀ w', S w' → w'.rangeAt b o cx := fun w' h => bRange h hbl hxrw
      clear hxrw
      refine wp_region_held (S := S) (by kernel_rfl) ?_
      change wpAnyH _ _ _ _ S _ _ _ wr.drew
      refine wpAnyH_take (i := 0) (oi := ?oi_1) (v := ?v_1) ?ho_1 ?h1_1 ?h2_1 ?h3_1 ?hq_1 (Or.inl ⟨?hw_1, ?hy_1⟩) ?hs_1 ?rest_1; (case h2_1 => kernel_rfl); (case h3_1 => kernel_rfl); (case ho_1 => (simp only [List.getElem?_toArray, List.getElem?_cons_zero, List.getElem?_cons_succ]; rfl)); (case h1_1 => kernel_rfl); (case hq_1 => exact fun _ _ _ h => h); (case hw_1 => rfl); (case hy_1 => (intro w' hSw; (try simp only [S] at hSw); go_simp; (try with_reducible rfl))); (case hs_1 => assumption); (try simp only [Act.put, List.setIfInBounds_toArray, List.set_cons_zero, List.set_cons_succ])
      refine wpAnyH_ready (rs := [1]) (by kernel_rfl) (by simp) (AllReadyH.cons (o := ?oo1_20) ?hoo1_20 (fun K hK => ?steponly20) AllReadyH.nil); (case hoo1_20 => (simp only [List.getElem?_toArray, List.getElem?_cons_zero, List.getElem?_cons_succ]; rfl))
      go_simp
      refine Calls.mono (HCC.out.1 _ hS0) ?_
      rintro e X1 ⟨rfl, hb1⟩
      have hS1 : S X1 := (show Below wr.heap.size wr wr.drew from hS0).trans (hb1.mono (Nat.le_refl _))
      refine hK.out _ _ hS1 (fun _ => ?_)
      clear hK K hS0
      (try simp only [Act.put, List.setIfInBounds_toArray, List.set_cons_zero, List.set_cons_succ])
      refine wpAnyH_take (i := 2) (oi := ?oi_2) (v := ?v_2) ?ho_2 ?h1_2 ?h2_2 ?h3_2 ?hq_2 (Or.inl ⟨?hw_2, ?hy_2⟩) ?hs_2 ?rest_2; (case h2_2 => kernel_rfl); (case h3_2 => kernel_rfl); (case ho_2 => (simp only [List.getElem?_toArray, List.getElem?_cons_zero, List.getElem?_cons_succ]; rfl)); (case h1_2 => kernel_rfl); (case hq_2 => exact fun _ _ _ h => h); (case hw_2 => rfl); (case hy_2 => (intro w' hSw; (try simp only [S] at hSw); go_simp; (try with_reducible rfl))); (case hs_2 => assumption); (try simp only [Act.put, List.setIfInBounds_toArray, List.set_cons_zero, List.set_cons_succ])
      refine wpAnyH_take (i := 3) (oi := ?oi_3) (v := ?v_3) ?ho_3 ?h1_3 ?h2_3 ?h3_3 ?hq_3 (Or.inl ⟨?hw_3, ?hy_3⟩) ?hs_3 ?rest_3; (case h2_3 => kernel_rfl); (case h3_3 => kernel_rfl); (case ho_3 => (simp only [List.getElem?_toArray, List.getElem?_cons_zero, List.getElem?_cons_succ]; rfl)); (case h1_3 => kernel_rfl); (case hq_3 => exact fun _ _ _ h => h); (case hw_3 => rfl); (case hy_3 => (intro w' hSw; (try simp only [S] at hSw); go_simp; (try with_reducible rfl))); (case hs_3 => assumption); (try simp only [Act.put, List.setIfInBounds_toArray, List.set_cons_zero, List.set_cons_succ])
      refine wpAnyH_take (i := 4) (oi := ?oi_4) (v := ?v_4) ?ho_4 ?h1_4 ?h2_4 ?h3_4 ?hq_4 (Or.inl ⟨?hw_4, ?hy_4⟩) ?hs_4 ?rest_4; (case h2_4 => kernel_rfl); (case h3_4 => kernel_rfl); (case ho_4 => (simp only [List.getElem?_toArray, List.getElem?_cons_zero, List.getElem?_cons_succ]; rfl)); (case h1_4 => kernel_rfl); (case hq_4 => exact fun _ _ _ h => h); (case hw_4 => rfl); (case hy_4 => (intro w' hSw; (try simp only [S] at hSw); go_simp; (try with_reducible rfl))); (case hs_4 => assumption); (try simp only [Act.put, List.setIfInBounds_toArray, List.set_cons_zero, List.set_cons_succ])
      refine wpAnyH_take (i := 5) (oi := ?oi_18) (v := ?v_18) ?ho_18 ?h1_18 ?h2_18 ?h3_18 ?hq_18 (Or.inl ⟨?hw_18, ?hy_18⟩) ?hs_18 ?rest_18; (case h2_18 => kernel_rfl); (case h3_18 => kernel_rfl); (case ho_18 => (simp only [List.getElem?_toArray, List.getElem?_cons_zero, List.getElem?_cons_succ]; rfl)); (case h1_18 => kernel_rfl); (case hq_18 => exact fun _ _ _ h => h); (case hw_18 => rfl); (case hy_18 => (intro w' hSw; refine exec_load_row (x := .tmp 36) ?_ ?_ (rx w' hSw) Try.underlying73 ?_ hxi <;> rfl)); (case hs_18 => assumption); (try simp only [Act.put, List.setIfInBounds_toArray, List.set_cons_zero, List.set_cons_succ])
      refine wpAnyH_take (i := 6) (oi := ?oi_5) (v := ?v_5) ?ho_5 ?h1_5 ?h2_5 ?h3_5 ?hq_5 (Or.inl ⟨?hw_5, ?hy_5⟩) ?hs_5 ?rest_5; (case h2_5 => kernel_rfl); (case h3_5 => kernel_rfl); (case ho_5 => (simp only [List.getElem?_toArray, List.getElem?_cons_zero, List.getElem?_cons_succ]; rfl)); (case h1_5 => kernel_rfl); (case hq_5 => exact fun _ _ _ h => h); (case hw_5 => rfl); (case hy_5 => (intro w' hSw; (try simp only [S] at hSw); go_simp; (try with_reducible rfl))); (case hs_5 => assumption); (try simp only [Act.put, List.setIfInBounds_toArray, List.set_cons_zero, List.set_cons_succ])
      refine wpAnyH_take (i := 7) (oi := ?oi_6) (v := ?v_6) ?ho_6 ?h1_6 ?h2_6 ?h3_6 ?hq_6 (Or.inl ⟨?hw_6, ?hy_6⟩) ?hs_6 ?rest_6; (case h2_6 => kernel_rfl); (case h3_6 => kernel_rfl); (case ho_6 => (simp only [List.getElem?_toArray, List.getElem?_cons_zero, List.getElem?_cons_succ]; rfl)); (case h1_6 => kernel_rfl); (case hq_6 => exact fun _ _ _ h => h); (case hw_6 => rfl); (case hy_6 => (intro w' hSw; (try simp only [S] at hSw); go_simp; (try with_reducible rfl))); (case hs_6 => assumption); (try simp only [Act.put, List.setIfInBounds_toArray, List.set_cons_zero, List.set_cons_succ])
      refine wpAnyH_take (i := 8) (oi := ?oi_19) (v := ?v_19) ?ho_19 ?h1_19 ?h2_19 ?h3_19 ?hq_19 (Or.inl ⟨?hw_19, ?hy_19⟩) ?hs_19 ?rest_19; (case h2_19 => kernel_rfl); (case h3_19 => kernel_rfl); (case ho_19 => (simp only [List.getElem?_toArray, List.getElem?_cons_zero, List.getElem?_cons_succ]; rfl)); (case h1_19 => kernel_rfl); (case hq_19 => exact fun _ _ _ h => h); (case hw_19 => rfl); (case hy_19 => (intro w' hSw; refine exec_load_row (x := .tmp 39) ?_ ?_ (rx w' hSw) Try.underlying73 ?_ hxi <;> rfl)); (case hs_19 => assumption); (try simp only [Act.put, List.setIfInBounds_toArray, List.set_cons_zero, List.set_cons_succ])
      have hbs := HSX.out X1
      have hz1 := (show Below wr.heap.size wr X1 from hS1).size
      have hS2 : S (X1.alloc (.cells (cx ++ cx).toArray 73)) := (show Below wr.heap.size wr X1 from hS1).alloc hz1 _
      have b6 := heap_alloc_new X1 (.cells (cx ++ cx).toArray 73)
      refine wpAnyH_ready (rs := [9]) (by kernel_rfl) (by simp) (AllReadyH.cons (o := ?oo9_21) ?hoo9_21 (fun K hK => ?steponly21) AllReadyH.nil); (case hoo9_21 => (simp only [List.getElem?_toArray, List.getElem?_cons_zero, List.getElem?_cons_succ]; rfl))
      go_simp
      refine hK.out _ _ hS2 (fun _ => ?_)
      clear hK K hbs
      (try simp only [Act.put, List.setIfInBounds_toArray, List.set_cons_zero, List.set_cons_succ])
      obtain ⟨U, hU⟩ : ∃ q, X1.alloc (.cells (cx ++ cx).toArray 73) = q := ⟨_, rfl⟩
      rw [hU] at b6 hS2 ⊢
      clear hU
      refine wpAnyH_ready (rs := [10]) (by kernel_rfl) (by simp) (AllReadyH.cons (o := ?oo10_22) ?hoo10_22 (fun K hK => ?steponly22) AllReadyH.nil); (case hoo10_22 => (simp only [List.getElem?_toArray, List.getElem?_cons_zero, List.getElem?_cons_succ]; rfl))
      go_simp
      refine Calls.mono (HCC.out.2.1 U _ b6) ?_
      rintro e X2 ⟨rfl, hb2⟩
      have hS3 : S X2 := (show Below wr.heap.size wr U from hS2).trans (hb2.mono (show Below wr.heap.size wr U from hS2).size)
      refine hK.out _ _ hS3 (fun _ => ?_)
      clear hK K hS1 hS2 b6
      (try simp only [Act.put, List.setIfInBounds_toArray, List.set_cons_zero, List.set_cons_succ])
      refine wpAnyH_take (i := 11) (oi := ?oi_7) (v := ?v_7) ?ho_7 ?h1_7 ?h2_7 ?h3_7 ?hq_7 (Or.inl ⟨?hw_7, ?hy_7⟩) ?hs_7 ?rest_7; (case h2_7 => kernel_rfl); (case h3_7 => kernel_rfl); (case ho_7 => (simp only [List.getElem?_toArray, List.getElem?_cons_zero, List.getElem?_cons_succ]; rfl)); (case h1_7 => kernel_rfl); (case hq_7 => exact fun _ _ _ h => h); (case hw_7 => rfl); (case hy_7 => (intro w' hSw; (try simp only [S] at hSw); go_simp; (try with_reducible rfl))); (case hs_7 => assumption); (try simp only [Act.put, List.setIfInBounds_toArray, List.set_cons_zero, List.set_cons_succ])
      refine wpAnyH_take (i := 12) (oi := ?oi_8) (v := ?v_8) ?ho_8 ?h1_8 ?h2_8 ?h3_8 ?hq_8 (Or.inl ⟨?hw_8, ?hy_8⟩) ?hs_8 ?rest_8; (case h2_8 => kernel_rfl); (case h3_8 => kernel_rfl); (case ho_8 => (simp only [List.getElem?_toArray, List.getElem?_cons_zero, List.getElem?_cons_succ]; rfl)); (case h1_8 => kernel_rfl); (case hq_8 => exact fun _ _ _ h => h); (case hw_8 => rfl); (case hy_8 => (intro w' hSw; (try simp only [S] at hSw); go_simp; (try with_reducible rfl))); (case hs_8 => assumption); (try simp only [Act.put, List.setIfInBounds_toArray, List.set_cons_zero, List.set_cons_succ])
      refine wpAnyH_take (i := 13) (oi := ?oi_9) (v := ?v_9) ?ho_9 ?h1_9 ?h2_9 ?h3_9 ?hq_9 (Or.inl ⟨?hw_9, ?hy_9⟩) ?hs_9 ?rest_9; (case h2_9 => kernel_rfl); (case h3_9 => kernel_rfl); (case ho_9 => (simp only [List.getElem?_toArray, List.getElem?_cons_zero, List.getElem?_cons_succ]; rfl)); (case h1_9 => kernel_rfl); (case hq_9 => exact fun _ _ _ h => h); (case hw_9 => rfl); (case hy_9 => (intro w' hSw; (try simp only [S] at hSw); go_simp; (try with_reducible rfl))); (case hs_9 => assumption); (try simp only [Act.put, List.setIfInBounds_toArray, List.set_cons_zero, List.set_cons_succ])
      refine wpAnyH_take (i := 14) (oi := ?oi_10) (v := ?v_10) ?ho_10 ?h1_10 ?h2_10 ?h3_10 ?hq_10 (Or.inl ⟨?hw_10, ?hy_10⟩) ?hs_10 ?rest_10; (case h2_10 => kernel_rfl); (case h3_10 => kernel_rfl); (case ho_10 => (simp only [List.getElem?_toArray, List.getElem?_cons_zero, List.getElem?_cons_succ]; rfl)); (case h1_10 => kernel_rfl); (case hq_10 => exact fun _ _ _ h => h); (case hw_10 => rfl); (case hy_10 => (intro w' hSw; (try simp only [S] at hSw); go_simp; (try with_reducible rfl))); (case hs_10 => assumption); (try simp only [Act.put, List.setIfInBounds_toArray, List.set_cons_zero, List.set_cons_succ])
      refine wpAnyH_ready (rs := [15]) (by kernel_rfl) (by simp) (AllReadyH.cons (o := ?oo15_23) ?hoo15_23 (fun K hK => ?steponly23) AllReadyH.nil); (case hoo15_23 => (simp only [List.getElem?_toArray, List.getElem?_cons_zero, List.getElem?_cons_succ]; rfl))
      go_simp
      refine Calls.mono (HCC.out.2.2.1 _ hS3) ?_
      rintro e X3 ⟨rfl, hb3⟩
      have hS4 : S X3 := (show Below wr.heap.size wr X2 from hS3).trans (hb3.mono (show Below wr.heap.size wr X2 from hS3).size)
      refine hK.out _ _ hS4 (fun _ => ?_)
      clear hK K hS3
      (try simp only [Act.put, List.setIfInBounds_toArray, List.set_cons_zero, List.set_cons_succ])
      refine wpAnyH_take (i := 16) (oi := ?oi_11) (v := ?v_11) ?ho_11 ?h1_11 ?h2_11 ?h3_11 ?hq_11 (Or.inl ⟨?hw_11, ?hy_11⟩) ?hs_11 ?rest_11; (case h2_11 => kernel_rfl); (case h3_11 => kernel_rfl); (case ho_11 => (simp only [List.getElem?_toArray, List.getElem?_cons_zero, List.getElem?_cons_succ]; rfl)); (case h1_11 => kernel_rfl); (case hq_11 => exact fun _ _ _ h => h); (case hw_11 => rfl); (case hy_11 => (intro w' hSw; (try simp only [S] at hSw); go_simp; (try with_reducible rfl))); (case hs_11 => assumption); (try simp only [Act.put, List.setIfInBounds_toArray, List.set_cons_zero, List.set_cons_succ])
      refine wpAnyH_take (i := 17) (oi := ?oi_12) (v := ?v_12) ?ho_12 ?h1_12 ?h2_12 ?h3_12 ?hq_12 (Or.inl ⟨?hw_12, ?hy_12⟩) ?hs_12 ?rest_12; (case h2_12 => kernel_rfl); (case h3_12 => kernel_rfl); (case ho_12 => (simp only [List.getElem?_toArray, List.getElem?_cons_zero, List.getElem?_cons_succ]; rfl)); (case h1_12 => kernel_rfl); (case hq_12 => exact fun _ _ _ h => h); (case hw_12 => rfl); (case hy_12 => (intro w' hSw; (try simp only [S] at hSw); go_simp; (try with_reducible rfl))); (case hs_12 => assumption); (try simp only [Act.put, List.setIfInBounds_toArray, List.set_cons_zero, List.set_cons_succ])
      refine wpAnyH_take (i := 18) (oi := ?oi_13) (v := ?v_13) ?ho_13 ?h1_13 ?h2_13 ?h3_13 ?hq_13 (Or.inl ⟨?hw_13, ?hy_13⟩) ?hs_13 ?rest_13; (case h2_13 => kernel_rfl); (case h3_13 => kernel_rfl); (case ho_13 => (simp only [List.getElem?_toArray, List.getElem?_cons_zero, List.getElem?_cons_succ]; rfl)); (case h1_13 => kernel_rfl); (case hq_13 => exact fun _ _ _ h => h); (case hw_13 => rfl); (case hy_13 => (intro w' hSw; (try simp only [S] at hSw); go_simp; (try with_reducible rfl))); (case hs_13 => assumption); (try simp only [Act.put, List.setIfInBounds_toArray, List.set_cons_zero, List.set_cons_succ])
      refine wpAnyH_take (i := 19) (oi := ?oi_14) (v := ?v_14) ?ho_14 ?h1_14 ?h2_14 ?h3_14 ?hq_14 (Or.inl ⟨?hw_14, ?hy_14⟩) ?hs_14 ?rest_14; (case h2_14 => kernel_rfl); (case h3_14 => kernel_rfl); (case ho_14 => (simp only [List.getElem?_toArray, List.getElem?_cons_zero, List.getElem?_cons_succ]; rfl)); (case h1_14 => kernel_rfl); (case hq_14 => exact fun _ _ _ h => h); (case hw_14 => rfl); (case hy_14 => (intro w' hSw; (try simp only [S] at hSw); go_simp; (try with_reducible rfl))); (case hs_14 => assumption); (try simp only [Act.put, List.setIfInBounds_toArray, List.set_cons_zero, List.set_cons_succ])
      refine wpAnyH_take (i := 20) (oi := ?oi_15) (v := ?v_15) ?ho_15 ?h1_15 ?h2_15 ?h3_15 ?hq_15 (Or.inl ⟨?hw_15, ?hy_15⟩) ?hs_15 ?rest_15; (case h2_15 => kernel_rfl); (case h3_15 => kernel_rfl); (case ho_15 => (simp only [List.getElem?_toArray, List.getElem?_cons_zero, List.getElem?_cons_succ]; rfl)); (case h1_15 => kernel_rfl); (case hq_15 => exact fun _ _ _ h => h); (case hw_15 => rfl); (case hy_15 => (intro w' hSw; (try simp only [S] at hSw); go_simp; (try with_reducible rfl))); (case hs_15 => assumption); (try simp only [Act.put, List.setIfInBounds_toArray, List.set_cons_zero, List.set_cons_succ])
      refine wpAnyH_ready (rs := [21]) (by kernel_rfl) (by simp) (AllReadyH.cons (o := ?oo21_24) ?hoo21_24 (fun K hK => ?steponly24) AllReadyH.nil); (case hoo21_24 => (simp only [List.getElem?_toArray, List.getElem?_cons_zero, List.getElem?_cons_succ]; rfl))
      go_simp
      refine Calls.mono (HCC.out.2.2.2 _ hS4) ?_
      rintro e X4 ⟨rfl, hb4⟩
      have hS5 : S X4 := (show Below wr.heap.size wr X3 from hS4).trans (hb4.mono (show Below wr.heap.size wr X3 from hS4).size)
      refine hK.out _ _ hS5 (fun _ => ?_)
      clear hK K hS4
      (try simp only [Act.put, List.setIfInBounds_toArray, List.set_cons_zero, List.set_cons_succ])
      refine wpAnyH_take (i := 22) (oi := ?oi_16) (v := ?v_16) ?ho_16 ?h1_16 ?h2_16 ?h3_16 ?hq_16 (Or.inl ⟨?hw_16, ?hy_16⟩) ?hs_16 ?rest_16; (case h2_16 => kernel_rfl); (case h3_16 => kernel_rfl); (case ho_16 => (simp only [List.getElem?_toArray, List.getElem?_cons_zero, List.getElem?_cons_succ]; rfl)); (case h1_16 => kernel_rfl); (case hq_16 => exact fun _ _ _ h => h); (case hw_16 => rfl); (case hy_16 => (intro w' hSw; (try simp only [S] at hSw); go_simp; (try with_reducible rfl))); (case hs_16 => assumption); (try simp only [Act.put, List.setIfInBounds_toArray, List.set_cons_zero, List.set_cons_succ])
      refine wpAnyH_take (i := 23) (oi := ?oi_17) (v := ?v_17) ?ho_17 ?h1_17 ?h2_17 ?h3_17 ?hq_17 (Or.inl ⟨?hw_17, ?hy_17⟩) ?hs_17 ?rest_17; (case h2_17 => kernel_rfl); (case h3_17 => kernel_rfl); (case ho_17 => (simp only [List.getElem?_toArray, List.getElem?_cons_zero, List.getElem?_cons_succ]; rfl)); (case h1_17 => kernel_rfl); (case hq_17 => exact fun _ _ _ h => h); (case hw_17 => rfl); (case hy_17 => (intro w' hSw; (try simp only [S] at hSw); go_simp; (try with_reducible rfl))); (case hs_17 => assumption); (try simp only [Act.put, List.setIfInBounds_toArray, List.set_cons_zero, List.set_cons_succ])
      refine wpAnyH_done (by kernel_rfl) ?_ _
      obtain ⟨hB, hbk, hlr, g1, g4, hoks, hln⟩ := HK.out
      have hB4 := bNext hB (show Below wr.heap.size wr X4 from hS5)
      have hbk4 := hbk.nxt (show Below wr.heap.size wr X4 from hS5)
      have hlr4 := hlr.nxt (show Below wr.heap.size wr X4 from hS5)
      have hbz := blkZ
      have hzi := bk_info zblk_len
      have hz1' := all_oneCell_toArray (oneCell_bvs zblk)
      obtain ⟨zb, hzb⟩ : ∃ q, (bvs zblk).toArray = q := ⟨_, rfl⟩
      have hE1 := lenc_any X4 hbk4
      unfold bkv lfEnc at hE1
      rw [g1, if_neg Bool.false_ne_true, hzb, show erE false = 11 from rfl] at hE1
      have hE2 : ∀ W' A c, LfAt W' W'.heap.size A (j + j) c (l ++ l) → Calls Try.prog 24 #[.slice A (j + j) c] W' (Ret W' (.tuple #[.agg zb, .int .i64 11])) := fun W' A c h => by
        have := lenc_any W' h
        unfold bkv lfEnc at this
        rw [g4, if_neg Bool.false_ne_true, hzb, show erE false = 11 from rfl] at this
        exact this
      rw [hzb] at hbz hzi hz1'
      have ho1 := one_ens l
      have HQ := Lib.hid (And.intro hlr4 (And.intro hB4 (And.intro hE2 (And.intro hoks hln))))
      clear hB hbk hlr g1 g4 hoks hln hB4 hbk4 hlr4 hE2 hzb HK HCC HSX hS5 rx
      go_upto_region 10 with (fail)
      go_wp2_with fail
      refine Calls.mono hE1 ?_
      rintro e X5 ⟨rfl, hb5⟩
      clear hE1
      obtain ⟨Y5, hY, y5, bY⟩ := newRow X5 zb zb 40
      have hb := hb5.trans (bY.mono hb5.size)
      obtain ⟨h1, h2', h3', hoks, hln⟩ := HQ.out
      have hl5 := h1.nxt hb
      have hB5 := bNext h2' hb
      go_upto_region 11 with (first
        | (refine wpList_new rfl hbz rfl ?_)
        | (refine wpList_store_row rfl 40 (.tmp 5) (.tmp 59) rfl _ zb rfl rfl _ zb (heap_alloc_new _ _) hzi rfl hz1' ?_)
        | fail)
      try rw [hY]
      clear hY hb5 bY hb h1 h2'
      have hbA : Below Y5.heap.size Y5 (Y5.alloc (.cells #[] 73)) := (Below.refl _ _).alloc (Nat.le_refl _) _
      have hs1 := hl5.sl.below hbA
      have hnil := nil_slice Y5
      have HR := Lib.hid (And.intro hl5 (And.intro hB5 (And.intro h3' (And.intro hoks hln))))
      clear hl5 hB5 h3' hoks hln HQ y5
      go_wp2_with (first
        | (at_builtin; refine wpList_app _ rfl (.tmp 62) (.tmp 63) 49 rfl (base := Y5.heap.size) Try.underlying49 elemE rfl (own_none' Y5 Y5.heap.size 73 35 (Nat.le_refl _)) rfl hs1 ho1 (by simp only [maxLen]; omega) (by omega) (by simp) ?_; intro A7 c7 w7 hown hg hbb hat; simp only [Nat.zero_add, List.nil_append] at hown ⊢
           have hb7 := hbA.trans hbb
           have hs2 := HR.out.1.sl.next hb7
           clear hs1 hg hbb hat hbA)
        | (at_builtin; refine wpList_app _ rfl (.tmp 64) (.tmp 65) 49 rfl (base := Y5.heap.size) Try.underlying49 elemE rfl hown rfl hs2 ho1 (by simp only [maxLen]; omega) (by omega) hb7.size ?_; intro A8 c8 w8 hown8 hg8 hbb8 hat8)
        | fail)
      have hb8 := hb7.trans hbb8
      obtain ⟨h1, h2', h3', hoks, hln⟩ := HR.out
      obtain ⟨_, _, e8, h8c, -⟩ := own_form hown8
      cases e8
      have hll : LfAt w8 w8.heap.size A8 (j + j) c8 (l ++ l) := ⟨fun y hy => hoks y (by simpa using hy), by rw [List.length_append, hln], by rw [ens_app]; exact Sl.of_own hown8, h8c⟩
      have hc := h3' _ _ _ hll
      have HB8 := Lib.hid (bNext h2' hb8)
      clear hb8 h1 h2' h3' hoks hln hown8 hll h8c hb7 hbb8 hg8 hat8 hown hs2 HR hnil
      refine Calls.mono hc ?_
      rintro e X6 ⟨rfl, hb6⟩
      clear hc
      obtain ⟨Y6, hY, y7, bY⟩ := newRow X6 zb zb 40
      have HB9 := Lib.hid (bNext HB8.out (hb6.trans (bY.mono hb6.size)))
      go_upto_region 12 with (first
        | (refine wpList_new rfl hbz rfl ?_)
        | (refine wpList_store_row rfl 40 (.tmp 7) (.tmp 68) rfl _ zb rfl rfl _ zb (heap_alloc_new _ _) hzi rfl hz1' ?_)
        | fail)
      try rw [hY]
      clear hY hb6 bY y7
      go_wp2_with (first
        | (go_at_call 23; refine Calls.mono (wakes05_any _) ?_; rintro e W9 ⟨rfl, hb9⟩)
        | fail)
      go_ret
      exact Ret.mk rfl (bNext HB9.out hb9)
set_option maxRecDepth 100000 in
theorem leafOrder_walk {H : Type} {enc : TypeId × Value → H} {W : World} {base : Nat} {v0 : Value} {d0 : DataW H} {p0 : List MemPlace}
    (k0 : Value.okWide Try.prog W .any base 49 v0) (h0 : DataW.Trod enc Try.prog W 0 (fun _ => true) true 49 v0 d0 p0)
    : Calls Try.prog 12 #[v0] W fun e W' => e = .returned (.bool true) ∧ Below W.heap.size W W' := by
  obtain ⟨A, n, c, l, rfl, hl, hcm⟩ := open_entries k0 h0
  have hcap := hl.cap
  have hn : n ≤ 9223372036854775807 := by simp only [maxLen] at hcm; omega
  cases hg : goodE l
  · exact order_no W hl hn (.inl hg)
  · by_cases h2 : n < 2
    · exact order_no W hl hn (.inr ⟨hg, h2⟩)
    · exact order_core W hl hcm hg (by omega)
end Go.Proofs.Ythmjkgpfnpdddaa
