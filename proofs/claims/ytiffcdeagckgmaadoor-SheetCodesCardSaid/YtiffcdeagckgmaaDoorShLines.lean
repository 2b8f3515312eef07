/- keep.Pieces, keep.Lines, keep.Way where both are alike; codexlaw19.Own. (s8/pglines.py writes it.) -/
import Derived.Test.YtiffcdeagckgmaaDoorShMem
namespace Go.Proofs.YtiffcdeagckgmaaDoor
set_option linter.unusedSimpArgs false
set_option linter.unusedVariables false
open Go.RowKit Go.ChangeShapes Go.WideShapes Go.Sort

theorem part_intP {P : Program} {t : TypeId} {k : IntKind} (hu : P.underlying t = some (.int k)) {cs : Array Value} {o : Nat} {v : Value} (h : cs[o]? = some v) (w : World) : (part t cs o).run P w = .ok v w := by
  simp [part, isAgg, run_underlying hu, h]
theorem part_strP {P : Program} {t : TypeId} (hu : P.underlying t = some .string) {cs : Array Value} {o : Nat} {v : Value} (h : cs[o]? = some v) (w : World) : (part t cs o).run P w = .ok v w := by
  simp [part, isAgg, run_underlying hu, h]
theorem eqF_consP {P : Program} {d : Nat} {xs ys : Array Value} {f : Field} {fs : List Field} {a b : Value} {r : Bool} {w : World} (hn : f.name ≠ "_") (ha : (part f.type xs f.offset).run P w = .ok a w) (hb : (part f.type ys f.offset).run P w = .ok b w)
    (hr : (Op.equalIn d f.type a b).run P w = .ok r w) {R : Bool} (h : r = true → (Op.eqFields d xs ys fs).run P w = .ok R w) : (Op.eqFields d xs ys (f :: fs)).run P w = .ok (r && R) w := by
  unfold Op.eqFields
  rw [if_pos hn]
  simp only [Sem.run_bind, ha, hb, Result.andThen_ok, hr, Sem.run_ite, Sem.run_pure]
  cases r
  · simp
  · simpa using h rfl
theorem eqF_nilP {P : Program} {d : Nat} {xs ys : Array Value} {w : World} : (Op.eqFields d xs ys []).run P w = .ok true w := by unfold Op.eqFields; rfl
theorem nd_nameP : ∀ (a b : String), a = b → b ≠ "_" → a ≠ "_" := fun a b e h => e ▸ h
theorem pc_eq (x : PC) (w : World) : (Op.equalIn 10000 47 (.agg x.cells.toArray) (.agg x.cells.toArray)).run Tryd.prog w = .ok true w := by
  have hf : ∃ fs, Tryd.prog.underlying 47 = some (.struct fs) ∧ (fs.toList.map fun f => (f.name, f.type, f.offset)) = [("X", 3, 0), ("Text", 9, 1)] := ⟨_, Tryd.underlying47, by kernel_rfl⟩
  obtain ⟨fs, hu, hl⟩ := hf
  have hfo : Tryd.prog.fieldsOf 47 = fs := by unfold Program.fieldsOf; rw [hu]
  rw [run_equalIn_struct w 9999 _ _ _ (by rw [hfo]; exact hu) (by kernel_rfl), hfo]
  have hlen : fs.toList.length = 2 := by have := congrArg List.length hl; simpa using this
  match fs.toList, hlen, hl with
  | [f0, f1], _, hl =>
    simp only [List.map_cons, List.map_nil, List.cons.injEq, Prod.mk.injEq, and_true] at hl
    obtain ⟨⟨n0, t0, o0⟩, ⟨n1, t1, o1⟩⟩ := hl
    have a0 := part_intP (P := Tryd.prog) Tryd.underlying3 (cs := x.cells.toArray) (o := 0) (v := .int .i64 x.x) rfl w
    have a1 := part_strP (P := Tryd.prog) Tryd.underlying9 (cs := x.cells.toArray) (o := 1) (v := .string x.s) rfl w
    have q0 : (Op.equalIn 9999 3 (.int .i64 x.x) (.int .i64 x.x)).run Tryd.prog w = .ok true w := by
      have := run_equalIn_int (P := Tryd.prog) w 9998 3 .i64 .i64 x.x x.x Tryd.underlying3
      rw [beq_self_eq_true] at this; exact this
    have q1 : (Op.equalIn 9999 9 (.string x.s) (.string x.s)).run Tryd.prog w = .ok true w := by
      have := run_equalIn_string (P := Tryd.prog) w 9998 9 x.s x.s Tryd.underlying9
      rw [beq_self_eq_true] at this; exact this
    rw [← t0, ← o0] at a0
    rw [← t1, ← o1] at a1
    rw [← t0] at q0
    rw [← t1] at q1
    have := eqF_consP (nd_nameP _ _ n0 (by decide)) a0 a0 q0 fun _ => eqF_consP (nd_nameP _ _ n1 (by decide)) a1 a1 q1 (fun _ => eqF_nilP)
    exact this
set_option maxHeartbeats 8000000 in
set_option maxRecDepth 100000 in
theorem keepp_same {A A' : Option Addr} {n m c c' B B' : Nat} {la : List PC} (w : World) (ha : PcAt w B A n c la) (hb : PcAt w B' A' m c' la) (hB : B ≤ w.heap.size) (hB' : B' ≤ w.heap.size) :
    Calls Tryd.prog 30 #[.slice A n c, .slice A' m c'] w (Ret w (.bool true)) := by
  have hln := ha.len
  have hlm := hb.len
  have hcap := ha.cap
  have hmost := ha.most
  simp only [maxLen] at hmost
  have HA := Lib.hid ha
  have HB := Lib.hid hb
  obtain rfl : n = m := by omega
  have HN := Lib.hid hln
  clear hln hlm ha hb
  go_enter Tryd.func30, Tryd.ntmps30
  go_wp2_with fail
  go_loopw [5] (fun i wr => ∃ k : Nat, k ≤ n ∧ i = .int .i64 k ∧ Below w.heap.size w wr) (fun i _ => n - (intOf i).toNat)
  case atStart => exact ⟨0, by omega, rfl, Below.refl _ _⟩
  case round =>
    obtain ⟨k, hk, rfl, hBr⟩ := hrel
    by_cases hlt : k < n
    · obtain ⟨x, hx⟩ : ∃ x, la[k]? = some x := ⟨_, List.getElem?_eq_getElem (by rw [HN.out]; exact hlt)⟩
      obtain ⟨b, o, rfl, hbB, hxr⟩ := HA.out.entry hx
      obtain ⟨b', o', rfl, hbB', hyr⟩ := HB.out.entry hx
      have hi1 : (k : Int) < (n : Int) := by omega
      have g1 : IntKind.i64.wrap ((k : Int) + 1) = ((k + 1 : Nat) : Int) := by rw [wrap_small _ (by omega) (by omega)]; omega
      have hxi : (Tryd.prog.info? 47).map (·.size) = some x.cells.length := pc_size
      have hq := fun w => pc_eq x w
      obtain ⟨xc, hxc⟩ : ∃ q, x.cells = q := ⟨_, rfl⟩
      rw [hxc] at hxr hyr hxi
      simp only [hxc] at hq
      let S : World → Prop := fun w' => Below w.heap.size w w'
      have r1 : ∀ w', S w' → w'.rangeAt b (o + k * 2) xc := fun w' h => bRange h (by omega) hxr
      have r2 : ∀ w', S w' → w'.rangeAt b' (o' + k * 2) xc := fun w' h => bRange h (by omega) hyr
      have hS0 : S wr.drew := hBr.drew
      have HX := Lib.hid hBr
      clear hx hxr hyr hBr hxc
      go_upto_region 6 with (fail)
      refine wp_region_held (S := S) (by kernel_rfl) ?_
      change wpAnyH _ _ _ _ S _ _ _ wr.drew
      refine wpAnyH_take (i := 0) (oi := ?oi_11) (v := ?v_11) ?ho_11 ?h1_11 ?h2_11 ?h3_11 ?hq_11 (Or.inl ⟨?hw_11, ?hy_11⟩) ?hs_11 ?rest_11; (case h2_11 => kernel_rfl); (case h3_11 => kernel_rfl); (case ho_11 => (simp only [List.getElem?_toArray, List.getElem?_cons_zero, List.getElem?_cons_succ]; rfl)); (case h1_11 => kernel_rfl); (case hq_11 => exact fun _ _ _ h => h); (case hw_11 => rfl); (case hy_11 => (intro w' hSw; (try simp only [S] at hSw); go_simp; (try with_reducible rfl))); (case hs_11 => assumption); (try simp only [Act.put, List.setIfInBounds_toArray, List.set_cons_zero, List.set_cons_succ])
      refine wpAnyH_take (i := 1) (oi := ?oi_12) (v := ?v_12) ?ho_12 ?h1_12 ?h2_12 ?h3_12 ?hq_12 (Or.inl ⟨?hw_12, ?hy_12⟩) ?hs_12 ?rest_12; (case h2_12 => kernel_rfl); (case h3_12 => kernel_rfl); (case ho_12 => (simp only [List.getElem?_toArray, List.getElem?_cons_zero, List.getElem?_cons_succ]; rfl)); (case h1_12 => kernel_rfl); (case hq_12 => exact fun _ _ _ h => h); (case hw_12 => rfl); (case hy_12 => (intro w' hSw; (try simp only [S] at hSw); go_simp; (try with_reducible rfl))); (case hs_12 => assumption); (try simp only [Act.put, List.setIfInBounds_toArray, List.set_cons_zero, List.set_cons_succ])
      refine wpAnyH_take (i := 2) (oi := ?oi_13) (v := ?v_13) ?ho_13 ?h1_13 ?h2_13 ?h3_13 ?hq_13 (Or.inl ⟨?hw_13, ?hy_13⟩) ?hs_13 ?rest_13; (case h2_13 => kernel_rfl); (case h3_13 => kernel_rfl); (case ho_13 => (simp only [List.getElem?_toArray, List.getElem?_cons_zero, List.getElem?_cons_succ]; rfl)); (case h1_13 => kernel_rfl); (case hq_13 => exact fun _ _ _ h => h); (case hw_13 => rfl); (case hy_13 => (intro w' hSw; (try simp only [S] at hSw); go_simp; (try with_reducible rfl))); (case hs_13 => assumption); (try simp only [Act.put, List.setIfInBounds_toArray, List.set_cons_zero, List.set_cons_succ])
      refine wpAnyH_take (i := 3) (oi := ?oi_24) (v := ?v_24) ?ho_24 ?h1_24 ?h2_24 ?h3_24 ?hq_24 (Or.inl ⟨?hw_24, ?hy_24⟩) ?hs_24 ?rest_24; (case h2_24 => kernel_rfl); (case h3_24 => kernel_rfl); (case ho_24 => (simp only [List.getElem?_toArray, List.getElem?_cons_zero, List.getElem?_cons_succ]; rfl)); (case h1_24 => kernel_rfl); (case hq_24 => exact fun _ _ _ h => h); (case hw_24 => rfl); (case hy_24 => (intro w' hSw; refine exec_load_row (x := .tmp 19) ?_ ?_ (r1 w' hSw) Tryd.underlying47 ?_ hxi <;> rfl)); (case hs_24 => assumption); (try simp only [Act.put, List.setIfInBounds_toArray, List.set_cons_zero, List.set_cons_succ])
      refine wpAnyH_take (i := 4) (oi := ?oi_14) (v := ?v_14) ?ho_14 ?h1_14 ?h2_14 ?h3_14 ?hq_14 (Or.inl ⟨?hw_14, ?hy_14⟩) ?hs_14 ?rest_14; (case h2_14 => kernel_rfl); (case h3_14 => kernel_rfl); (case ho_14 => (simp only [List.getElem?_toArray, List.getElem?_cons_zero, List.getElem?_cons_succ]; rfl)); (case h1_14 => kernel_rfl); (case hq_14 => exact fun _ _ _ h => h); (case hw_14 => rfl); (case hy_14 => (intro w' hSw; (try simp only [S] at hSw); go_simp; (try with_reducible rfl))); (case hs_14 => assumption); (try simp only [Act.put, List.setIfInBounds_toArray, List.set_cons_zero, List.set_cons_succ])
      refine wpAnyH_take (i := 5) (oi := ?oi_15) (v := ?v_15) ?ho_15 ?h1_15 ?h2_15 ?h3_15 ?hq_15 (Or.inl ⟨?hw_15, ?hy_15⟩) ?hs_15 ?rest_15; (case h2_15 => kernel_rfl); (case h3_15 => kernel_rfl); (case ho_15 => (simp only [List.getElem?_toArray, List.getElem?_cons_zero, List.getElem?_cons_succ]; rfl)); (case h1_15 => kernel_rfl); (case hq_15 => exact fun _ _ _ h => h); (case hw_15 => rfl); (case hy_15 => (intro w' hSw; (try simp only [S] at hSw); go_simp; (try with_reducible rfl))); (case hs_15 => assumption); (try simp only [Act.put, List.setIfInBounds_toArray, List.set_cons_zero, List.set_cons_succ])
      refine wpAnyH_take (i := 6) (oi := ?oi_16) (v := ?v_16) ?ho_16 ?h1_16 ?h2_16 ?h3_16 ?hq_16 (Or.inl ⟨?hw_16, ?hy_16⟩) ?hs_16 ?rest_16; (case h2_16 => kernel_rfl); (case h3_16 => kernel_rfl); (case ho_16 => (simp only [List.getElem?_toArray, List.getElem?_cons_zero, List.getElem?_cons_succ]; rfl)); (case h1_16 => kernel_rfl); (case hq_16 => exact fun _ _ _ h => h); (case hw_16 => rfl); (case hy_16 => (intro w' hSw; (try simp only [S] at hSw); go_simp; (try with_reducible rfl))); (case hs_16 => assumption); (try simp only [Act.put, List.setIfInBounds_toArray, List.set_cons_zero, List.set_cons_succ])
      refine wpAnyH_take (i := 7) (oi := ?oi_25) (v := ?v_25) ?ho_25 ?h1_25 ?h2_25 ?h3_25 ?hq_25 (Or.inl ⟨?hw_25, ?hy_25⟩) ?hs_25 ?rest_25; (case h2_25 => kernel_rfl); (case h3_25 => kernel_rfl); (case ho_25 => (simp only [List.getElem?_toArray, List.getElem?_cons_zero, List.getElem?_cons_succ]; rfl)); (case h1_25 => kernel_rfl); (case hq_25 => exact fun _ _ _ h => h); (case hw_25 => rfl); (case hy_25 => (intro w' hSw; refine exec_load_row (x := .tmp 23) ?_ ?_ (r2 w' hSw) Tryd.underlying47 ?_ hxi <;> rfl)); (case hs_25 => assumption); (try simp only [Act.put, List.setIfInBounds_toArray, List.set_cons_zero, List.set_cons_succ])
      refine wpAnyH_take (i := 8) (oi := ?oi_17) (v := ?v_17) ?ho_17 ?h1_17 ?h2_17 ?h3_17 ?hq_17 (Or.inl ⟨?hw_17, ?hy_17⟩) ?hs_17 ?rest_17; (case h2_17 => kernel_rfl); (case h3_17 => kernel_rfl); (case ho_17 => (simp only [List.getElem?_toArray, List.getElem?_cons_zero, List.getElem?_cons_succ]; rfl)); (case h1_17 => kernel_rfl); (case hq_17 => exact fun _ _ _ h => h); (case hw_17 => rfl); (case hy_17 => (intro w' hSw; (try simp only [S] at hSw); go_simp; (try with_reducible rfl))); (case hs_17 => assumption); (try simp only [Act.put, List.setIfInBounds_toArray, List.set_cons_zero, List.set_cons_succ])
      refine wpAnyH_done (by kernel_rfl) ?_ _
      clear hS0 r1 r2
      go_wp2_with fail
      go_roundw
      case rel => exact ⟨k + 1, by omega, by go_num, HX.out.drew⟩
      case measure => simp [intOf]; omega
    · obtain rfl : k = n := by omega
      have hi1 : ¬ (k : Int) < (k : Int) := by omega
      have HR := Lib.hid hBr
      clear hBr
      go_wp2_with fail
      go_ret
      exact Ret.mk rfl HR.out
/-! ### lines alike -/
structure SameR (r s : LN × List PC) : Prop where
  kind : r.1.kind = s.1.kind
  first : r.1.first = s.1.first
  last : r.1.last = s.1.last
  over : r.1.over = s.1.over
  pcs : r.2 = s.2
structure RSame (l m : List (LN × List PC)) : Prop where
  len : l.length = m.length
  at_ : ∀ (k : Nat) (r s : LN × List PC), l[k]? = some r → m[k]? = some s → SameR r s
theorem RSame.refl (l : List (LN × List PC)) : RSame l l := ⟨rfl, fun k r s h1 h2 => by rw [h1] at h2; cases h2; exact ⟨rfl, rfl, rfl, rfl, rfl⟩⟩
theorem RSame.symm {l m : List (LN × List PC)} (h : RSame l m) : RSame m l := ⟨h.len.symm, fun k r s h1 h2 => by obtain ⟨a, b, c, d, e⟩ := h.at_ k s r h2 h1; exact ⟨a.symm, b.symm, c.symm, d.symm, e.symm⟩⟩
set_option maxHeartbeats 16000000 in
set_option maxRecDepth 100000 in
theorem lines_same {A A' : Option Addr} {n m c c' : Nat} {la lb : List (LN × List PC)} (w : World) (ha : RnAt w w.heap.size A n c la) (hb : RnAt w w.heap.size A' m c' lb) (hs : RSame la lb) (hn : n ≤ 1000000) :
    Calls Tryd.prog 25 #[.slice A n c, .slice A' m c'] w (Ret w (.bool true)) := by
  have hln := ha.len
  have hlm := hb.len
  have hl2 := hs.len
  obtain rfl : n = m := by omega
  have HA := Lib.hid ha
  have HB := Lib.hid hb
  have HN := Lib.hid (And.intro hln (And.intro hlm hs))
  clear hln hlm hl2 ha hb hs
  go_enter Tryd.func25, Tryd.ntmps25
  go_wp2_with fail
  go_loopw [5] (fun i wr => ∃ k : Nat, k ≤ n ∧ i = .int .i64 k ∧ Below w.heap.size w wr) (fun i _ => n - (intOf i).toNat)
  case atStart => exact ⟨0, by omega, rfl, Below.refl _ _⟩
  case round =>
    obtain ⟨k, hk, rfl, hBr⟩ := hrel
    by_cases hlt : k < n
    · obtain ⟨⟨x, px⟩, hx⟩ : ∃ x, la[k]? = some x := ⟨_, List.getElem?_eq_getElem (by rw [HN.out.1]; exact hlt)⟩
      obtain ⟨⟨q, pq⟩, hq⟩ : ∃ x, lb[k]? = some x := ⟨_, List.getElem?_eq_getElem (by rw [HN.out.2.1]; exact hlt)⟩
      obtain ⟨s1, s2, s3, s4, s5⟩ := HN.out.2.2.at_ k _ _ hx hq
      simp only at s1 s2 s3 s4 s5
      subst s5
      obtain ⟨b, o, A1, n1, c1, rfl, hbB, hxr, hpv, hpx⟩ := HA.out.entry hx
      obtain ⟨b', o', A2, n2, c2, rfl, hbB', hqr, hqv, hpq⟩ := HB.out.entry hq
      simp only at hxr hpv hpx hqr hqv hpq
      have hxo : x.One := by unfold LN.One; rw [hpv]; rfl
      have hqo : q.One := by unfold LN.One; rw [hqv]; rfl
      have hi1 : (k : Int) < (n : Int) := by omega
      have g1 : IntKind.i64.wrap ((k : Int) + 1) = ((k + 1 : Nat) : Int) := by rw [wrap_small _ (by omega) (by omega)]; omega
      have hxr1 := bRange hBr hbB hxr
      have hqr1 := bRange hBr hbB' hqr
      have hob : b < wr.heap.size := by have := hBr.size; omega
      have hob' : b' < wr.heap.size := by have := hBr.size; omega
      have HX := Lib.hid (And.intro hBr (And.intro (hpx.nxt hBr) (And.intro (hpq.nxt hBr) (And.intro s1 (And.intro s2 (And.intro s3 (And.intro s4 (And.intro hpv hqv))))))))
      clear hx hq hxr hqr hBr hpx hpq s1 s2 s3 s4 hpv hqv
      go_upto_region 6 with (fail)
      obtain ⟨w1, hw1⟩ : ∃ q, wr = q := ⟨_, rfl⟩
      rw [hw1] at HX hob hob' hxr1 hqr1 ⊢
      clear hw1
      have ix := ln_linfo x
      have iq := ln_linfo q
      have jx := ln_info x
      have jq := ln_info q
      have ox := one_ln hxo
      have oq := one_ln hqo
      have hzE := lnZ
      obtain ⟨z, hz⟩ : ∃ z, (#[.int .i64 0, .bool false, .bool false, .bool false, .slice none 0 0] : Array Value) = z := ⟨_, rfl⟩
      have hz5 : z.size = x.cells.toArray.size := by rw [← hz]; rfl
      have hz5' : z.size = q.cells.toArray.size := by rw [← hz]; rfl
      rw [hz] at hzE
      clear hz
      go_cut [6, 7] from 19 to 26 (fun s12 s13 wx => ∃ e1 e2 : Nat, s12 = .pointer (some ⟨e1, 0, none⟩) ∧ s13 = .pointer (some ⟨e2, 0, none⟩) ∧ wx.heap[e1]? = some (.cells x.cells.toArray 45) ∧ wx.heap[e2]? = some (.cells q.cells.toArray 45) ∧ Below w1.heap.size w1 wx)
      case first =>
        let S : World → Prop := fun w' => Below w1.heap.size w1 w'
        have hS0 : S w1.drew := (Below.refl _ _).drew
        have rx : ∀ w', S w' → w'.rangeAt b (o + k * 5) x.cells := fun w' h => bRange h hob hxr1
        have rq : ∀ w', S w' → w'.rangeAt b' (o' + k * 5) q.cells := fun w' h => bRange h hob' hqr1
        clear hxr1 hqr1
        refine wp_region_held (S := S) (by kernel_rfl) ?_
        change wpAnyH _ _ _ _ S _ _ _ w1.drew
        refine wpAnyH_take (i := 0) (oi := ?oi_18) (v := ?v_18) ?ho_18 ?h1_18 ?h2_18 ?h3_18 ?hq_18 (Or.inl ⟨?hw_18, ?hy_18⟩) ?hs_18 ?rest_18; (case h2_18 => kernel_rfl); (case h3_18 => kernel_rfl); (case ho_18 => (simp only [List.getElem?_toArray, List.getElem?_cons_zero, List.getElem?_cons_succ]; rfl)); (case h1_18 => kernel_rfl); (case hq_18 => exact fun _ _ _ h => h); (case hw_18 => rfl); (case hy_18 => (intro w' hSw; (try simp only [S] at hSw); go_simp; (try with_reducible rfl))); (case hs_18 => assumption); (try simp only [Act.put, List.setIfInBounds_toArray, List.set_cons_zero, List.set_cons_succ])
        refine wpAnyH_take (i := 1) (oi := ?oi_19) (v := ?v_19) ?ho_19 ?h1_19 ?h2_19 ?h3_19 ?hq_19 (Or.inl ⟨?hw_19, ?hy_19⟩) ?hs_19 ?rest_19; (case h2_19 => kernel_rfl); (case h3_19 => kernel_rfl); (case ho_19 => (simp only [List.getElem?_toArray, List.getElem?_cons_zero, List.getElem?_cons_succ]; rfl)); (case h1_19 => kernel_rfl); (case hq_19 => exact fun _ _ _ h => h); (case hw_19 => rfl); (case hy_19 => (intro w' hSw; (try simp only [S] at hSw); go_simp; (try with_reducible rfl))); (case hs_19 => assumption); (try simp only [Act.put, List.setIfInBounds_toArray, List.set_cons_zero, List.set_cons_succ])
        refine wpAnyH_take (i := 2) (oi := ?oi_20) (v := ?v_20) ?ho_20 ?h1_20 ?h2_20 ?h3_20 ?hq_20 (Or.inl ⟨?hw_20, ?hy_20⟩) ?hs_20 ?rest_20; (case h2_20 => kernel_rfl); (case h3_20 => kernel_rfl); (case ho_20 => (simp only [List.getElem?_toArray, List.getElem?_cons_zero, List.getElem?_cons_succ]; rfl)); (case h1_20 => kernel_rfl); (case hq_20 => exact fun _ _ _ h => h); (case hw_20 => rfl); (case hy_20 => (intro w' hSw; (try simp only [S] at hSw); go_simp; (try with_reducible rfl))); (case hs_20 => assumption); (try simp only [Act.put, List.setIfInBounds_toArray, List.set_cons_zero, List.set_cons_succ])
        refine wpAnyH_take (i := 3) (oi := ?oi_26) (v := ?v_26) ?ho_26 ?h1_26 ?h2_26 ?h3_26 ?hq_26 (Or.inl ⟨?hw_26, ?hy_26⟩) ?hs_26 ?rest_26; (case h2_26 => kernel_rfl); (case h3_26 => kernel_rfl); (case ho_26 => (simp only [List.getElem?_toArray, List.getElem?_cons_zero, List.getElem?_cons_succ]; rfl)); (case h1_26 => kernel_rfl); (case hq_26 => exact fun _ _ _ h => h); (case hw_26 => rfl); (case hy_26 => (intro w' hSw; refine exec_load_row (x := .tmp 21) ?_ ?_ (rx w' hSw) Tryd.underlying45 ?_ ix <;> rfl)); (case hs_26 => assumption); (try simp only [Act.put, List.setIfInBounds_toArray, List.set_cons_zero, List.set_cons_succ])
        refine wpAnyH_take (i := 4) (oi := ?oi_21) (v := ?v_21) ?ho_21 ?h1_21 ?h2_21 ?h3_21 ?hq_21 (Or.inl ⟨?hw_21, ?hy_21⟩) ?hs_21 ?rest_21; (case h2_21 => kernel_rfl); (case h3_21 => kernel_rfl); (case ho_21 => (simp only [List.getElem?_toArray, List.getElem?_cons_zero, List.getElem?_cons_succ]; rfl)); (case h1_21 => kernel_rfl); (case hq_21 => exact fun _ _ _ h => h); (case hw_21 => rfl); (case hy_21 => (intro w' hSw; (try simp only [S] at hSw); go_simp; (try with_reducible rfl))); (case hs_21 => assumption); (try simp only [Act.put, List.setIfInBounds_toArray, List.set_cons_zero, List.set_cons_succ])
        refine wpAnyH_take (i := 5) (oi := ?oi_22) (v := ?v_22) ?ho_22 ?h1_22 ?h2_22 ?h3_22 ?hq_22 (Or.inl ⟨?hw_22, ?hy_22⟩) ?hs_22 ?rest_22; (case h2_22 => kernel_rfl); (case h3_22 => kernel_rfl); (case ho_22 => (simp only [List.getElem?_toArray, List.getElem?_cons_zero, List.getElem?_cons_succ]; rfl)); (case h1_22 => kernel_rfl); (case hq_22 => exact fun _ _ _ h => h); (case hw_22 => rfl); (case hy_22 => (intro w' hSw; (try simp only [S] at hSw); go_simp; (try with_reducible rfl))); (case hs_22 => assumption); (try simp only [Act.put, List.setIfInBounds_toArray, List.set_cons_zero, List.set_cons_succ])
        refine wpAnyH_take (i := 6) (oi := ?oi_23) (v := ?v_23) ?ho_23 ?h1_23 ?h2_23 ?h3_23 ?hq_23 (Or.inl ⟨?hw_23, ?hy_23⟩) ?hs_23 ?rest_23; (case h2_23 => kernel_rfl); (case h3_23 => kernel_rfl); (case ho_23 => (simp only [List.getElem?_toArray, List.getElem?_cons_zero, List.getElem?_cons_succ]; rfl)); (case h1_23 => kernel_rfl); (case hq_23 => exact fun _ _ _ h => h); (case hw_23 => rfl); (case hy_23 => (intro w' hSw; (try simp only [S] at hSw); go_simp; (try with_reducible rfl))); (case hs_23 => assumption); (try simp only [Act.put, List.setIfInBounds_toArray, List.set_cons_zero, List.set_cons_succ])
        refine wpAnyH_take (i := 7) (oi := ?oi_27) (v := ?v_27) ?ho_27 ?h1_27 ?h2_27 ?h3_27 ?hq_27 (Or.inl ⟨?hw_27, ?hy_27⟩) ?hs_27 ?rest_27; (case h2_27 => kernel_rfl); (case h3_27 => kernel_rfl); (case ho_27 => (simp only [List.getElem?_toArray, List.getElem?_cons_zero, List.getElem?_cons_succ]; rfl)); (case h1_27 => kernel_rfl); (case hq_27 => exact fun _ _ _ h => h); (case hw_27 => rfl); (case hy_27 => (intro w' hSw; refine exec_load_row (x := .tmp 25) ?_ ?_ (rq w' hSw) Tryd.underlying45 ?_ iq <;> rfl)); (case hs_27 => assumption); (try simp only [Act.put, List.setIfInBounds_toArray, List.set_cons_zero, List.set_cons_succ])
        refine wpAnyH_ready (rs := [8, 9]) (by kernel_rfl) (by simp) (AllReadyH.cons (o := ?oo8_28) ?hoo8_28 (fun K hK => ?step8) (AllReadyH.cons (o := ?oo9_28) ?hoo9_28 (fun K hK => ?step9) AllReadyH.nil)); (case hoo8_28 => (simp only [List.getElem?_toArray, List.getElem?_cons_zero, List.getElem?_cons_succ]; rfl)); (case hoo9_28 => (simp only [List.getElem?_toArray, List.getElem?_cons_zero, List.getElem?_cons_succ]; rfl))
        case step8 =>
          refine step_new rfl hzE rfl ?_
          have hS1 : S (w1.drew.alloc (.cells z 45)) := (Below.refl _ w1).drew.alloc (Nat.le_refl _) _
          have b1 : (w1.drew.alloc (.cells z 45)).heap[w1.heap.size]? = some (.cells z 45) := heap_alloc_new w1.drew _
          refine hK.out _ _ hS1 (fun _ => ?_)
          clear hK K
          (try simp only [Act.put, List.setIfInBounds_toArray, List.set_cons_zero, List.set_cons_succ])
          obtain ⟨U, hU⟩ : ∃ q, w1.drew.alloc (.cells z 45) = q := ⟨_, rfl⟩
          rw [hU] at hS1 b1 ⊢
          clear hU
          refine wpAnyH_ready (rs := [9]) (by kernel_rfl) (by simp) (AllReadyH.cons (o := ?oo9_29) ?hoo9_29 (fun K hK => ?steponly29) AllReadyH.nil); (case hoo9_29 => (simp only [List.getElem?_toArray, List.getElem?_cons_zero, List.getElem?_cons_succ]; rfl))
          refine step_new rfl hzE rfl ?_
          have hzU := (show Below w1.heap.size w1 U from hS1).size
          have hbA : Below U.heap.size U (U.alloc (.cells z 45)) := (Below.refl _ _).alloc (Nat.le_refl _) _
          have hS2 : S (U.alloc (.cells z 45)) := (show Below w1.heap.size w1 U from hS1).trans (hbA.mono hzU)
          have l1 := (Array.getElem?_eq_some_iff.1 b1).1
          have c1 := bBlk hbA l1 b1
          have c2 := heap_alloc_new U (.cells z 45)
          refine hK.out _ _ hS2 (fun _ => ?_)
          clear hK K
          (try simp only [Act.put, List.setIfInBounds_toArray, List.set_cons_zero, List.set_cons_succ])
          obtain ⟨UA, hUA⟩ : ∃ q, U.alloc (.cells z 45) = q := ⟨_, rfl⟩
          rw [hUA] at hS2 c1 c2 ⊢
          clear hUA hbA
          have hne : w1.heap.size ≠ U.heap.size := by omega
          refine wpAnyH_ready (rs := [10]) (by kernel_rfl) (by simp) (AllReadyH.cons (o := ?oo10_30) ?hoo10_30 (fun K hK => ?steponly30) AllReadyH.nil); (case hoo10_30 => (simp only [List.getElem?_toArray, List.getElem?_cons_zero, List.getElem?_cons_succ]; rfl))
          refine step_row rfl 45 (.tmp 6) (.tmp 22) rfl w1.heap.size x.cells.toArray rfl rfl _ z c1 jx hz5 ox ?_
          have hS3 : S (UA.setRow w1.heap.size x.cells.toArray) := bSetRow hS2 (by omega) _
          have d1 : (UA.setRow w1.heap.size x.cells.toArray).heap[w1.heap.size]? = some (.cells x.cells.toArray 45) := setRow_heap _ _ _ _ _ _ c1
          have d2 : (UA.setRow w1.heap.size x.cells.toArray).heap[U.heap.size]? = some (.cells z 45) := (setRow_other _ _ _ _ (by omega)).trans c2
          refine hK.out _ _ hS3 (fun _ => ?_)
          clear hK K
          (try simp only [Act.put, List.setIfInBounds_toArray, List.set_cons_zero, List.set_cons_succ])
          obtain ⟨UB, hUB⟩ : ∃ q, UA.setRow w1.heap.size x.cells.toArray = q := ⟨_, rfl⟩
          rw [hUB] at hS3 d1 d2 ⊢
          clear hUB
          refine wpAnyH_ready (rs := [11]) (by kernel_rfl) (by simp) (AllReadyH.cons (o := ?oo11_31) ?hoo11_31 (fun K hK => ?steponly31) AllReadyH.nil); (case hoo11_31 => (simp only [List.getElem?_toArray, List.getElem?_cons_zero, List.getElem?_cons_succ]; rfl))
          refine step_row rfl 45 (.tmp 7) (.tmp 26) rfl U.heap.size q.cells.toArray rfl rfl _ z d2 jq hz5' oq ?_
          have hS4 : S (UB.setRow U.heap.size q.cells.toArray) := bSetRow hS3 (by omega) _
          have g1 : (UB.setRow U.heap.size q.cells.toArray).heap[w1.heap.size]? = some (.cells x.cells.toArray 45) := (setRow_other _ _ _ _ (by omega)).trans d1
          have g2 : (UB.setRow U.heap.size q.cells.toArray).heap[U.heap.size]? = some (.cells q.cells.toArray 45) := setRow_heap _ _ _ _ _ _ d2
          refine hK.out _ _ hS4 (fun _ => ?_)
          clear hK K
          (try simp only [Act.put, List.setIfInBounds_toArray, List.set_cons_zero, List.set_cons_succ])
          refine wpAnyH_done (by kernel_rfl) ?_ _
          have HE := Lib.hid (And.intro g1 (And.intro g2 (show Below w1.heap.size w1 _ from hS4)))
          clear hS0 hS1 hS2 hS3 hS4 rx rq b1 c1 c2 d1 d2 g1 g2 l1
          go_wp2_with fail
          go_meet
          exact ⟨_, _, rfl, rfl, HE.out.1, HE.out.2.1, HE.out.2.2⟩
        case step9 =>
          refine step_new rfl hzE rfl ?_
          have hS1 : S (w1.drew.alloc (.cells z 45)) := (Below.refl _ w1).drew.alloc (Nat.le_refl _) _
          have b1 : (w1.drew.alloc (.cells z 45)).heap[w1.heap.size]? = some (.cells z 45) := heap_alloc_new w1.drew _
          refine hK.out _ _ hS1 (fun _ => ?_)
          clear hK K
          (try simp only [Act.put, List.setIfInBounds_toArray, List.set_cons_zero, List.set_cons_succ])
          obtain ⟨U, hU⟩ : ∃ q, w1.drew.alloc (.cells z 45) = q := ⟨_, rfl⟩
          rw [hU] at hS1 b1 ⊢
          clear hU
          refine wpAnyH_ready (rs := [8]) (by kernel_rfl) (by simp) (AllReadyH.cons (o := ?oo8_32) ?hoo8_32 (fun K hK => ?steponly32) AllReadyH.nil); (case hoo8_32 => (simp only [List.getElem?_toArray, List.getElem?_cons_zero, List.getElem?_cons_succ]; rfl))
          refine step_new rfl hzE rfl ?_
          have hzU := (show Below w1.heap.size w1 U from hS1).size
          have hbA : Below U.heap.size U (U.alloc (.cells z 45)) := (Below.refl _ _).alloc (Nat.le_refl _) _
          have hS2 : S (U.alloc (.cells z 45)) := (show Below w1.heap.size w1 U from hS1).trans (hbA.mono hzU)
          have l1 := (Array.getElem?_eq_some_iff.1 b1).1
          have c1 := bBlk hbA l1 b1
          have c2 := heap_alloc_new U (.cells z 45)
          refine hK.out _ _ hS2 (fun _ => ?_)
          clear hK K
          (try simp only [Act.put, List.setIfInBounds_toArray, List.set_cons_zero, List.set_cons_succ])
          obtain ⟨UA, hUA⟩ : ∃ q, U.alloc (.cells z 45) = q := ⟨_, rfl⟩
          rw [hUA] at hS2 c1 c2 ⊢
          clear hUA hbA
          have hne : w1.heap.size ≠ U.heap.size := by omega
          refine wpAnyH_ready (rs := [10]) (by kernel_rfl) (by simp) (AllReadyH.cons (o := ?oo10_33) ?hoo10_33 (fun K hK => ?steponly33) AllReadyH.nil); (case hoo10_33 => (simp only [List.getElem?_toArray, List.getElem?_cons_zero, List.getElem?_cons_succ]; rfl))
          refine step_row rfl 45 (.tmp 6) (.tmp 22) rfl U.heap.size x.cells.toArray rfl rfl _ z c2 jx hz5 ox ?_
          have hS3 : S (UA.setRow U.heap.size x.cells.toArray) := bSetRow hS2 (by omega) _
          have d1 : (UA.setRow U.heap.size x.cells.toArray).heap[U.heap.size]? = some (.cells x.cells.toArray 45) := setRow_heap _ _ _ _ _ _ c2
          have d2 : (UA.setRow U.heap.size x.cells.toArray).heap[w1.heap.size]? = some (.cells z 45) := (setRow_other _ _ _ _ (by omega)).trans c1
          refine hK.out _ _ hS3 (fun _ => ?_)
          clear hK K
          (try simp only [Act.put, List.setIfInBounds_toArray, List.set_cons_zero, List.set_cons_succ])
          obtain ⟨UB, hUB⟩ : ∃ q, UA.setRow U.heap.size x.cells.toArray = q := ⟨_, rfl⟩
          rw [hUB] at hS3 d1 d2 ⊢
          clear hUB
          refine wpAnyH_ready (rs := [11]) (by kernel_rfl) (by simp) (AllReadyH.cons (o := ?oo11_34) ?hoo11_34 (fun K hK => ?steponly34) AllReadyH.nil); (case hoo11_34 => (simp only [List.getElem?_toArray, List.getElem?_cons_zero, List.getElem?_cons_succ]; rfl))
          refine step_row rfl 45 (.tmp 7) (.tmp 26) rfl w1.heap.size q.cells.toArray rfl rfl _ z d2 jq hz5' oq ?_
          have hS4 : S (UB.setRow w1.heap.size q.cells.toArray) := bSetRow hS3 (by omega) _
          have g1 : (UB.setRow w1.heap.size q.cells.toArray).heap[U.heap.size]? = some (.cells x.cells.toArray 45) := (setRow_other _ _ _ _ (by omega)).trans d1
          have g2 : (UB.setRow w1.heap.size q.cells.toArray).heap[w1.heap.size]? = some (.cells q.cells.toArray 45) := setRow_heap _ _ _ _ _ _ d2
          refine hK.out _ _ hS4 (fun _ => ?_)
          clear hK K
          (try simp only [Act.put, List.setIfInBounds_toArray, List.set_cons_zero, List.set_cons_succ])
          refine wpAnyH_done (by kernel_rfl) ?_ _
          have HE := Lib.hid (And.intro g1 (And.intro g2 (show Below w1.heap.size w1 _ from hS4)))
          clear hS0 hS1 hS2 hS3 hS4 rx rq b1 c1 c2 d1 d2 g1 g2 l1
          go_wp2_with fail
          go_meet
          exact ⟨_, _, rfl, rfl, HE.out.1, HE.out.2.1, HE.out.2.2⟩
      case rest =>
        obtain ⟨e1, e2, rfl, rfl, he1, he2, hbx⟩ := hcut
        rename World => wc
        obtain ⟨x0, x1, x2, x3, x4⟩ := ln_cells (range_blk he1)
        obtain ⟨q0, q1, q2, q3, q4⟩ := ln_cells (range_blk he2)
        rw [Nat.zero_add] at x1 x2 x3 x4 q1 q2 q3 q4
        obtain ⟨hB0, hpx, hpq, s1, s2, s3, s4, hpv, hqv⟩ := HX.out
        rw [hpv] at x4
        rw [hqv] at q4
        rw [← s1] at q0
        rw [← s2] at q1
        rw [← s3] at q2
        rw [← s4] at q3
        have le1 := (Array.getElem?_eq_some_iff.1 he1).1
        have le2 := (Array.getElem?_eq_some_iff.1 he2).1
        have hcall := keepp_same wc (hpx.nxt hbx) (hpq.nxt hbx) (Nat.le_refl _) (Nat.le_refl _)
        have HB2 := Lib.hid (bNext hB0 hbx)
        obtain ⟨f0, hf0⟩ : ∃ f, x.kind = f := ⟨_, rfl⟩
        obtain ⟨f1, hf1⟩ : ∃ f, x.first = f := ⟨_, rfl⟩
        obtain ⟨f2, hf2⟩ : ∃ f, x.last = f := ⟨_, rfl⟩
        obtain ⟨f3, hf3⟩ : ∃ f, x.over = f := ⟨_, rfl⟩
        rw [hf0] at x0 q0
        rw [hf1] at x1 q1
        rw [hf2] at x2 q2
        rw [hf3] at x3 q3
        clear he1 he2 hbx hxr1 hqr1 ix iq jx jq ox oq hz5 hz5' hzE hqo hxo HX hB0 hpx hpq s1 s2 s3 s4 hpv hqv hf0 hf1 hf2 hf3
        go_wp2_with fail
        refine Calls.mono hcall ?_
        rintro e w3 ⟨rfl, hb3⟩
        have HB3 := Lib.hid (bNext HB2.out hb3)
        clear hcall hb3
        go_wp2_with fail
        go_roundw
        case rel => exact ⟨k + 1, by omega, by go_num, HB3.out⟩
        case measure => simp [intOf]; omega
    · obtain rfl : k = n := by omega
      have hi1 : ¬ (k : Int) < (k : Int) := by omega
      have HR := Lib.hid hBr
      clear hBr
      go_wp2_with fail
      go_ret
      exact Ret.mk rfl HR.out
end Go.Proofs.YtiffcdeagckgmaaDoor
