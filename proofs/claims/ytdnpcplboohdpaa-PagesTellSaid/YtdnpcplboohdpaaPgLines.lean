/- keep.Pieces, keep.Lines, keep.Way where both are alike; codexlaw19.Own. (s8/pglines.py writes it.) -/
import Derived.Test.YtdnpcplboohdpaaPgPcs
import Derived.Test.YtdnpcplboohdpaaPgWay
import Derived.Test.YtdnpcplboohdpaaPgSec
namespace Go.Proofs.Ytdnpcplboohdpaa
set_option linter.unusedSimpArgs false
set_option linter.unusedVariables false
open Go.RowKit Go.ChangeShapes Go.WideShapes Go.Sort

theorem part_intP {P : Program} {t : TypeId} {k : IntKind} (hu : P.underlying t = some (.int k)) {cs : Array Value} {o : Nat} {v : Value} (h : cs[o]? = some v) (w : World) : (part t cs o).run P w = .ok v w := by
  simp [part, isAgg, run_underlying hu, h]
theorem part_strP {P : Program} {t : TypeId} (hu : P.underlying t = some .string) {cs : Array Value} {o : Nat} {v : Value} (h : cs[o]? = some v) (w : World) : (part t cs o).run P w = .ok v w := by
  simp [part, isAgg, run_underlying hu, h]
theorem eqF_consP {P : Program} {d : Nat} {xs ys : Array Value} {f : Field} {fs : List Field} {a b : Value} {r : Bool} {w : World} (hn : f.name ≠ "_") (ha : (part f.type xs f.offset).run P w = .ok a w) (hb : (part f.type ys f.offset).run P w = .ok b w)
    (hr : (Op.equalIn d f.type a b).run P w = .ok r w) {R : Bool} (h : r = true → (Op.eqFields d xs ys fs).run P w = .ok R w) : (Op.eqFields d xs ys (f :: fs)).run P w = .ok (r && R) w := by
  unfold Op.eqFields
  rw [if_pos hn]
  simp only [Sem.run_bind, ha, hb, Result.andThen_ok, hr, Sem.run_ite, Sem.run_pure]
  cases r
  · simp
  · simpa using h rfl
theorem eqF_nilP {P : Program} {d : Nat} {xs ys : Array Value} {w : World} : (Op.eqFields d xs ys []).run P w = .ok true w := by unfold Op.eqFields; rfl
theorem nd_nameP : ∀ (a b : String), a = b → b ≠ "_" → a ≠ "_" := fun a b e h => e ▸ h
theorem pc_eq (x : PC) (w : World) : (Op.equalIn 10000 49 (.agg x.cells.toArray) (.agg x.cells.toArray)).run Try.prog w = .ok true w := by
  have hf : ∃ fs, Try.prog.underlying 49 = some (.struct fs) ∧ (fs.toList.map fun f => (f.name, f.type, f.offset)) = [("X", 3, 0), ("Text", 9, 1)] := ⟨_, Try.underlying49, by kernel_rfl⟩
  obtain ⟨fs, hu, hl⟩ := hf
  have hfo : Try.prog.fieldsOf 49 = fs := by unfold Program.fieldsOf; rw [hu]
  rw [run_equalIn_struct w 9999 _ _ _ (by rw [hfo]; exact hu) (by kernel_rfl), hfo]
  have hlen : fs.toList.length = 2 := by have := congrArg List.length hl; simpa using this
  match fs.toList, hlen, hl with
  | [f0, f1], _, hl =>
    simp only [List.map_cons, List.map_nil, List.cons.injEq, Prod.mk.injEq, and_true] at hl
    obtain ⟨⟨n0, t0, o0⟩, ⟨n1, t1, o1⟩⟩ := hl
    have a0 := part_intP (P := Try.prog) Try.underlying3 (cs := x.cells.toArray) (o := 0) (v := .int .i64 x.x) rfl w
    have a1 := part_strP (P := Try.prog) Try.underlying9 (cs := x.cells.toArray) (o := 1) (v := .string x.s) rfl w
    have q0 : (Op.equalIn 9999 3 (.int .i64 x.x) (.int .i64 x.x)).run Try.prog w = .ok true w := by
      have := run_equalIn_int (P := Try.prog) w 9998 3 .i64 .i64 x.x x.x Try.underlying3
      rw [beq_self_eq_true] at this; exact this
    have q1 : (Op.equalIn 9999 9 (.string x.s) (.string x.s)).run Try.prog w = .ok true w := by
      have := run_equalIn_string (P := Try.prog) w 9998 9 x.s x.s Try.underlying9
      rw [beq_self_eq_true] at this; exact this
    rw [← t0, ← o0] at a0
    rw [← t1, ← o1] at a1
    rw [← t0] at q0
    rw [← t1] at q1
    have := eqF_consP (nd_nameP _ _ n0 (by decide)) a0 a0 q0 fun _ => eqF_consP (nd_nameP _ _ n1 (by decide)) a1 a1 q1 (fun _ => eqF_nilP)
    exact this
set_option maxHeartbeats 8000000 in
set_option maxRecDepth 100000 in
theorem keepp_same {A A' : Option Addr} {n m c c' B B' : Nat} {la : List PC} (w : World) (ha : PcAt w B A n c la) (hb : PcAt w B' A' m c' la) (hB : B ≤ w.heap.size) (hB' : B' ≤ w.heap.size) :
    Calls Try.prog 23 #[.slice A n c, .slice A' m c'] w (Ret w (.bool true)) := by
  have hln := ha.len
  have hlm := hb.len
  have hcap := ha.cap
  have hmost := ha.most
  simp only [maxLen] at hmost
  have HA := Lib.hid ha
  have HB := Lib.hid hb
  obtain rfl : n = m := by omega
  have HN := Lib.hid hln
  clear hln hlm ha hb
  go_enter Try.func23, Try.ntmps23
  go_wp2_with fail
  go_loopw [5] (fun i wr => ∃ k : Nat, k ≤ n ∧ i = .int .i64 k ∧ Below w.heap.size w wr) (fun i _ => n - (intOf i).toNat)
  case atStart => exact ⟨0, by omega, rfl, Below.refl _ _⟩
  case round =>
    obtain ⟨k, hk, rfl, hBr⟩ := hrel
    by_cases hlt : k < n
    · obtain ⟨x, hx⟩ : ∃ x, la[k]? = some x := ⟨_, List.getElem?_eq_getElem (by rw [HN.out]; exact hlt)⟩
      obtain ⟨b, o, rfl, hbB, hxr⟩ := HA.out.entry hx
      obtain ⟨b', o', rfl, hbB', hyr⟩ := HB.out.entry hx
      have hi1 : (k : Int) < (n : Int) := by omega
      have g1 : IntKind.i64.wrap ((k : Int) + 1) = ((k + 1 : Nat) : Int) := by rw [wrap_small _ (by omega) (by omega)]; omega
      have hxi : (Try.prog.info? 49).map (·.size) = some x.cells.length := pc_size
      have hq := fun w => pc_eq x w
      obtain ⟨xc, hxc⟩ : ∃ q, x.cells = q := ⟨_, rfl⟩
      rw [hxc] at hxr hyr hxi
      simp only [hxc] at hq
      let S : World → Prop := fun w' => Below w.heap.size w w'
      have r1 : ∀ w', S w' → w'.rangeAt b (o + k * 2) xc := fun w' h => bRange h (by omega) hxr
      have r2 : ∀ w', S w' → w'.rangeAt b' (o' + k * 2) xc := fun w' h => bRange h (by omega) hyr
      have hS0 : S wr.drew := hBr.drew
      have HX := Lib.hid hBr
      clear hx hxr hyr hBr hxc
      go_upto_region 6 with (fail)
      refine wp_region_held (S := S) (by kernel_rfl) ?_
      change wpAnyH _ _ _ _ S _ _ _ wr.drew
      refine wpAnyH_take (i := 0) (oi := ?oi_1) (v := ?v_1) ?ho_1 ?h1_1 ?h2_1 ?h3_1 ?hq_1 (Or.inl ⟨?hw_1, ?hy_1⟩) ?hs_1 ?rest_1; (case h2_1 => kernel_rfl); (case h3_1 => kernel_rfl); (case ho_1 => (simp only [List.getElem?_toArray, List.getElem?_cons_zero, List.getElem?_cons_succ]; rfl)); (case h1_1 => kernel_rfl); (case hq_1 => exact fun _ _ _ h => h); (case hw_1 => rfl); (case hy_1 => (intro w' hSw; (try simp only [S] at hSw); go_simp; (try with_reducible rfl))); (case hs_1 => assumption); (try simp only [Act.put, List.setIfInBounds_toArray, List.set_cons_zero, List.set_cons_succ])
      refine wpAnyH_take (i := 1) (oi := ?oi_2) (v := ?v_2) ?ho_2 ?h1_2 ?h2_2 ?h3_2 ?hq_2 (Or.inl ⟨?hw_2, ?hy_2⟩) ?hs_2 ?rest_2; (case h2_2 => kernel_rfl); (case h3_2 => kernel_rfl); (case ho_2 => (simp only [List.getElem?_toArray, List.getElem?_cons_zero, List.getElem?_cons_succ]; rfl)); (case h1_2 => kernel_rfl); (case hq_2 => exact fun _ _ _ h => h); (case hw_2 => rfl); (case hy_2 => (intro w' hSw; (try simp only [S] at hSw); go_simp; (try with_reducible rfl))); (case hs_2 => assumption); (try simp only [Act.put, List.setIfInBounds_toArray, List.set_cons_zero, List.set_cons_succ])
      refine wpAnyH_take (i := 2) (oi := ?oi_3) (v := ?v_3) ?ho_3 ?h1_3 ?h2_3 ?h3_3 ?hq_3 (Or.inl ⟨?hw_3, ?hy_3⟩) ?hs_3 ?rest_3; (case h2_3 => kernel_rfl); (case h3_3 => kernel_rfl); (case ho_3 => (simp only [List.getElem?_toArray, List.getElem?_cons_zero, List.getElem?_cons_succ]; rfl)); (case h1_3 => kernel_rfl); (case hq_3 => exact fun _ _ _ h => h); (case hw_3 => rfl); (case hy_3 => (intro w' hSw; (try simp only [S] at hSw); go_simp; (try with_reducible rfl))); (case hs_3 => assumption); (try simp only [Act.put, List.setIfInBounds_toArray, List.set_cons_zero, List.set_cons_succ])
      refine wpAnyH_take (i := 3) (oi := ?oi_14) (v := ?v_14) ?ho_14 ?h1_14 ?h2_14 ?h3_14 ?hq_14 (Or.inl ⟨?hw_14, ?hy_14⟩) ?hs_14 ?rest_14; (case h2_14 => kernel_rfl); (case h3_14 => kernel_rfl); (case ho_14 => (simp only [List.getElem?_toArray, List.getElem?_cons_zero, List.getElem?_cons_succ]; rfl)); (case h1_14 => kernel_rfl); (case hq_14 => exact fun _ _ _ h => h); (case hw_14 => rfl); (case hy_14 => (intro w' hSw; refine exec_load_row (x := .tmp 19) ?_ ?_ (r1 w' hSw) Try.underlying49 ?_ hxi <;> rfl)); (case hs_14 => assumption); (try simp only [Act.put, List.setIfInBounds_toArray, List.set_cons_zero, List.set_cons_succ])
      refine wpAnyH_take (i := 4) (oi := ?oi_4) (v := ?v_4) ?ho_4 ?h1_4 ?h2_4 ?h3_4 ?hq_4 (Or.inl ⟨?hw_4, ?hy_4⟩) ?hs_4 ?rest_4; (case h2_4 => kernel_rfl); (case h3_4 => kernel_rfl); (case ho_4 => (simp only [List.getElem?_toArray, List.getElem?_cons_zero, List.getElem?_cons_succ]; rfl)); (case h1_4 => kernel_rfl); (case hq_4 => exact fun _ _ _ h => h); (case hw_4 => rfl); (case hy_4 => (intro w' hSw; (try simp only [S] at hSw); go_simp; (try with_reducible rfl))); (case hs_4 => assumption); (try simp only [Act.put, List.setIfInBounds_toArray, List.set_cons_zero, List.set_cons_succ])
      refine wpAnyH_take (i := 5) (oi := ?oi_5) (v := ?v_5) ?ho_5 ?h1_5 ?h2_5 ?h3_5 ?hq_5 (Or.inl ⟨?hw_5, ?hy_5⟩) ?hs_5 ?rest_5; (case h2_5 => kernel_rfl); (case h3_5 => kernel_rfl); (case ho_5 => (simp only [List.getElem?_toArray, List.getElem?_cons_zero, List.getElem?_cons_succ]; rfl)); (case h1_5 => kernel_rfl); (case hq_5 => exact fun _ _ _ h => h); (case hw_5 => rfl); (case hy_5 => (intro w' hSw; (try simp only [S] at hSw); go_simp; (try with_reducible rfl))); (case hs_5 => assumption); (try simp only [Act.put, List.setIfInBounds_toArray, List.set_cons_zero, List.set_cons_succ])
      refine wpAnyH_take (i := 6) (oi := ?oi_6) (v := ?v_6) ?ho_6 ?h1_6 ?h2_6 ?h3_6 ?hq_6 (Or.inl ⟨?hw_6, ?hy_6⟩) ?hs_6 ?rest_6; (case h2_6 => kernel_rfl); (case h3_6 => kernel_rfl); (case ho_6 => (simp only [List.getElem?_toArray, List.getElem?_cons_zero, List.getElem?_cons_succ]; rfl)); (case h1_6 => kernel_rfl); (case hq_6 => exact fun _ _ _ h => h); (case hw_6 => rfl); (case hy_6 => (intro w' hSw; (try simp only [S] at hSw); go_simp; (try with_reducible rfl))); (case hs_6 => assumption); (try simp only [Act.put, List.setIfInBounds_toArray, List.set_cons_zero, List.set_cons_succ])
      refine wpAnyH_take (i := 7) (oi := ?oi_15) (v := ?v_15) ?ho_15 ?h1_15 ?h2_15 ?h3_15 ?hq_15 (Or.inl ⟨?hw_15, ?hy_15⟩) ?hs_15 ?rest_15; (case h2_15 => kernel_rfl); (case h3_15 => kernel_rfl); (case ho_15 => (simp only [List.getElem?_toArray, List.getElem?_cons_zero, List.getElem?_cons_succ]; rfl)); (case h1_15 => kernel_rfl); (case hq_15 => exact fun _ _ _ h => h); (case hw_15 => rfl); (case hy_15 => (intro w' hSw; refine exec_load_row (x := .tmp 23) ?_ ?_ (r2 w' hSw) Try.underlying49 ?_ hxi <;> rfl)); (case hs_15 => assumption); (try simp only [Act.put, List.setIfInBounds_toArray, List.set_cons_zero, List.set_cons_succ])
      refine wpAnyH_take (i := 8) (oi := ?oi_7) (v := ?v_7) ?ho_7 ?h1_7 ?h2_7 ?h3_7 ?hq_7 (Or.inl ⟨?hw_7, ?hy_7⟩) ?hs_7 ?rest_7; (case h2_7 => kernel_rfl); (case h3_7 => kernel_rfl); (case ho_7 => (simp only [List.getElem?_toArray, List.getElem?_cons_zero, List.getElem?_cons_succ]; rfl)); (case h1_7 => kernel_rfl); (case hq_7 => exact fun _ _ _ h => h); (case hw_7 => rfl); (case hy_7 => (intro w' hSw; (try simp only [S] at hSw); go_simp; (try with_reducible rfl))); (case hs_7 => assumption); (try simp only [Act.put, List.setIfInBounds_toArray, List.set_cons_zero, List.set_cons_succ])
      refine wpAnyH_done (by kernel_rfl) ?_ _
      clear hS0 r1 r2
      go_wp2_with fail
      go_roundw
      case rel => exact ⟨k + 1, by omega, by go_num, HX.out.drew⟩
      case measure => simp [intOf]; omega
    · obtain rfl : k = n := by omega
      have hi1 : ¬ (k : Int) < (k : Int) := by omega
      have HR := Lib.hid hBr
      clear hBr
      go_wp2_with fail
      go_ret
      exact Ret.mk rfl HR.out
/-! ### lines alike -/
structure SameR (r s : LN × List PC) : Prop where
  kind : r.1.kind = s.1.kind
  first : r.1.first = s.1.first
  last : r.1.last = s.1.last
  over : r.1.over = s.1.over
  pcs : r.2 = s.2
structure RSame (l m : List (LN × List PC)) : Prop where
  len : l.length = m.length
  at_ : ∀ (k : Nat) (r s : LN × List PC), l[k]? = some r → m[k]? = some s → SameR r s
theorem RSame.refl (l : List (LN × List PC)) : RSame l l := ⟨rfl, fun k r s h1 h2 => by rw [h1] at h2; cases h2; exact ⟨rfl, rfl, rfl, rfl, rfl⟩⟩
theorem RSame.symm {l m : List (LN × List PC)} (h : RSame l m) : RSame m l := ⟨h.len.symm, fun k r s h1 h2 => by obtain ⟨a, b, c, d, e⟩ := h.at_ k s r h2 h1; exact ⟨a.symm, b.symm, c.symm, d.symm, e.symm⟩⟩
set_option maxHeartbeats 16000000 in
set_option maxRecDepth 100000 in
theorem lines_same {A A' : Option Addr} {n m c c' : Nat} {la lb : List (LN × List PC)} (w : World) (ha : RnAt w w.heap.size A n c la) (hb : RnAt w w.heap.size A' m c' lb) (hs : RSame la lb) (hn : n ≤ 1000000) :
    Calls Try.prog 16 #[.slice A n c, .slice A' m c'] w (Ret w (.bool true)) := by
  have hln := ha.len
  have hlm := hb.len
  have hl2 := hs.len
  obtain rfl : n = m := by omega
  have HA := Lib.hid ha
  have HB := Lib.hid hb
  have HN := Lib.hid (And.intro hln (And.intro hlm hs))
  clear hln hlm hl2 ha hb hs
  go_enter Try.func16, Try.ntmps16
  go_wp2_with fail
  go_loopw [5] (fun i wr => ∃ k : Nat, k ≤ n ∧ i = .int .i64 k ∧ Below w.heap.size w wr) (fun i _ => n - (intOf i).toNat)
  case atStart => exact ⟨0, by omega, rfl, Below.refl _ _⟩
  case round =>
    obtain ⟨k, hk, rfl, hBr⟩ := hrel
    by_cases hlt : k < n
    · obtain ⟨⟨x, px⟩, hx⟩ : ∃ x, la[k]? = some x := ⟨_, List.getElem?_eq_getElem (by rw [HN.out.1]; exact hlt)⟩
      obtain ⟨⟨q, pq⟩, hq⟩ : ∃ x, lb[k]? = some x := ⟨_, List.getElem?_eq_getElem (by rw [HN.out.2.1]; exact hlt)⟩
      obtain ⟨s1, s2, s3, s4, s5⟩ := HN.out.2.2.at_ k _ _ hx hq
      simp only at s1 s2 s3 s4 s5
      subst s5
      obtain ⟨b, o, A1, n1, c1, rfl, hbB, hxr, hpv, hpx⟩ := HA.out.entry hx
      obtain ⟨b', o', A2, n2, c2, rfl, hbB', hqr, hqv, hpq⟩ := HB.out.entry hq
      simp only at hxr hpv hpx hqr hqv hpq
      have hxo : x.One := by unfold LN.One; rw [hpv]; rfl
      have hqo : q.One := by unfold LN.One; rw [hqv]; rfl
      have hi1 : (k : Int) < (n : Int) := by omega
      have g1 : IntKind.i64.wrap ((k : Int) + 1) = ((k + 1 : Nat) : Int) := by rw [wrap_small _ (by omega) (by omega)]; omega
      have hxr1 := bRange hBr hbB hxr
      have hqr1 := bRange hBr hbB' hqr
      have hob : b < wr.heap.size := by have := hBr.size; omega
      have hob' : b' < wr.heap.size := by have := hBr.size; omega
      have HX := Lib.hid (And.intro hBr (And.intro (hpx.nxt hBr) (And.intro (hpq.nxt hBr) (And.intro s1 (And.intro s2 (And.intro s3 (And.intro s4 (And.intro hpv hqv))))))))
      clear hx hq hxr hqr hBr hpx hpq s1 s2 s3 s4 hpv hqv
      go_upto_region 6 with (fail)
      obtain ⟨w1, hw1⟩ : ∃ q, wr = q := ⟨_, rfl⟩
      rw [hw1] at HX hob hob' hxr1 hqr1 ⊢
      clear hw1
      have ix := ln_linfo x
      have iq := ln_linfo q
      have jx := ln_info x
      have jq := ln_info q
      have ox := one_ln hxo
      have oq := one_ln hqo
      have hzE := lnZ
      obtain ⟨z, hz⟩ : ∃ z, (#[.int .i64 0, .bool false, .bool false, .bool false, .slice none 0 0] : Array Value) = z := ⟨_, rfl⟩
      have hz5 : z.size = x.cells.toArray.size := by rw [← hz]; rfl
      have hz5' : z.size = q.cells.toArray.size := by rw [← hz]; rfl
      rw [hz] at hzE
      clear hz
      go_cut [6, 7] from 19 to 26 (fun s12 s13 wx => ∃ e1 e2 : Nat, s12 = .pointer (some ⟨e1, 0, none⟩) ∧ s13 = .pointer (some ⟨e2, 0, none⟩) ∧ wx.heap[e1]? = some (.cells x.cells.toArray 45) ∧ wx.heap[e2]? = some (.cells q.cells.toArray 45) ∧ Below w1.heap.size w1 wx)
      case first =>
        let S : World → Prop := fun w' => Below w1.heap.size w1 w'
        have hS0 : S w1.drew := (Below.refl _ _).drew
        have rx : ∀ w', S w' → w'.rangeAt b (o + k * 5) x.cells := fun w' h => bRange h hob hxr1
        have rq : ∀ w', S w' → w'.rangeAt b' (o' + k * 5) q.cells := fun w' h => bRange h hob' hqr1
        clear hxr1 hqr1
        refine wp_region_held (S := S) (by kernel_rfl) ?_
        change wpAnyH _ _ _ _ S _ _ _ w1.drew
        refine wpAnyH_take (i := 0) (oi := ?oi_8) (v := ?v_8) ?ho_8 ?h1_8 ?h2_8 ?h3_8 ?hq_8 (Or.inl ⟨?hw_8, ?hy_8⟩) ?hs_8 ?rest_8; (case h2_8 => kernel_rfl); (case h3_8 => kernel_rfl); (case ho_8 => (simp only [List.getElem?_toArray, List.getElem?_cons_zero, List.getElem?_cons_succ]; rfl)); (case h1_8 => kernel_rfl); (case hq_8 => exact fun _ _ _ h => h); (case hw_8 => rfl); (case hy_8 => (intro w' hSw; (try simp only [S] at hSw); go_simp; (try with_reducible rfl))); (case hs_8 => assumption); (try simp only [Act.put, List.setIfInBounds_toArray, List.set_cons_zero, List.set_cons_succ])
        refine wpAnyH_take (i := 1) (oi := ?oi_9) (v := ?v_9) ?ho_9 ?h1_9 ?h2_9 ?h3_9 ?hq_9 (Or.inl ⟨?hw_9, ?hy_9⟩) ?hs_9 ?rest_9; (case h2_9 => kernel_rfl); (case h3_9 => kernel_rfl); (case ho_9 => (simp only [List.getElem?_toArray, List.getElem?_cons_zero, List.getElem?_cons_succ]; rfl)); (case h1_9 => kernel_rfl); (case hq_9 => exact fun _ _ _ h => h); (case hw_9 => rfl); (case hy_9 => (intro w' hSw; (try simp only [S] at hSw); go_simp; (try with_reducible rfl))); (case hs_9 => assumption); (try simp only [Act.put, List.setIfInBounds_toArray, List.set_cons_zero, List.set_cons_succ])
        refine wpAnyH_take (i := 2) (oi := ?oi_10) (v := ?v_10) ?ho_10 ?h1_10 ?h2_10 ?h3_10 ?hq_10 (Or.inl ⟨?hw_10, ?hy_10⟩) ?hs_10 ?rest_10; (case h2_10 => kernel_rfl); (case h3_10 => kernel_rfl); (case ho_10 => (simp only [List.getElem?_toArray, List.getElem?_cons_zero, List.getElem?_cons_succ]; rfl)); (case h1_10 => kernel_rfl); (case hq_10 => exact fun _ _ _ h => h); (case hw_10 => rfl); (case hy_10 => (intro w' hSw; (try simp only [S] at hSw); go_simp; (try with_reducible rfl))); (case hs_10 => assumption); (try simp only [Act.put, List.setIfInBounds_toArray, List.set_cons_zero, List.set_cons_succ])
        refine wpAnyH_take (i := 3) (oi := ?oi_16) (v := ?v_16) ?ho_16 ?h1_16 ?h2_16 ?h3_16 ?hq_16 (Or.inl ⟨?hw_16, ?hy_16⟩) ?hs_16 ?rest_16; (case h2_16 => kernel_rfl); (case h3_16 => kernel_rfl); (case ho_16 => (simp only [List.getElem?_toArray, List.getElem?_cons_zero, List.getElem?_cons_succ]; rfl)); (case h1_16 => kernel_rfl); (case hq_16 => exact fun _ _ _ h => h); (case hw_16 => rfl); (case hy_16 => (intro w' hSw; refine exec_load_row (x := .tmp 21) ?_ ?_ (rx w' hSw) Try.underlying45 ?_ ix <;> rfl)); (case hs_16 => assumption); (try simp only [Act.put, List.setIfInBounds_toArray, List.set_cons_zero, List.set_cons_succ])
        refine wpAnyH_take (i := 4) (oi := ?oi_11) (v := ?v_11) ?ho_11 ?h1_11 ?h2_11 ?h3_11 ?hq_11 (Or.inl ⟨?hw_11, ?hy_11⟩) ?hs_11 ?rest_11; (case h2_11 => kernel_rfl); (case h3_11 => kernel_rfl); (case ho_11 => (simp only [List.getElem?_toArray, List.getElem?_cons_zero, List.getElem?_cons_succ]; rfl)); (case h1_11 => kernel_rfl); (case hq_11 => exact fun _ _ _ h => h); (case hw_11 => rfl); (case hy_11 => (intro w' hSw; (try simp only [S] at hSw); go_simp; (try with_reducible rfl))); (case hs_11 => assumption); (try simp only [Act.put, List.setIfInBounds_toArray, List.set_cons_zero, List.set_cons_succ])
        refine wpAnyH_take (i := 5) (oi := ?oi_12) (v := ?v_12) ?ho_12 ?h1_12 ?h2_12 ?h3_12 ?hq_12 (Or.inl ⟨?hw_12, ?hy_12⟩) ?hs_12 ?rest_12; (case h2_12 => kernel_rfl); (case h3_12 => kernel_rfl); (case ho_12 => (simp only [List.getElem?_toArray, List.getElem?_cons_zero, List.getElem?_cons_succ]; rfl)); (case h1_12 => kernel_rfl); (case hq_12 => exact fun _ _ _ h => h); (case hw_12 => rfl); (case hy_12 => (intro w' hSw; (try simp only [S] at hSw); go_simp; (try with_reducible rfl))); (case hs_12 => assumption); (try simp only [Act.put, List.setIfInBounds_toArray, List.set_cons_zero, List.set_cons_succ])
        refine wpAnyH_take (i := 6) (oi := ?oi_13) (v := ?v_13) ?ho_13 ?h1_13 ?h2_13 ?h3_13 ?hq_13 (Or.inl ⟨?hw_13, ?hy_13⟩) ?hs_13 ?rest_13; (case h2_13 => kernel_rfl); (case h3_13 => kernel_rfl); (case ho_13 => (simp only [List.getElem?_toArray, List.getElem?_cons_zero, List.getElem?_cons_succ]; rfl)); (case h1_13 => kernel_rfl); (case hq_13 => exact fun _ _ _ h => h); (case hw_13 => rfl); (case hy_13 => (intro w' hSw; (try simp only [S] at hSw); go_simp; (try with_reducible rfl))); (case hs_13 => assumption); (try simp only [Act.put, List.setIfInBounds_toArray, List.set_cons_zero, List.set_cons_succ])
        refine wpAnyH_take (i := 7) (oi := ?oi_17) (v := ?v_17) ?ho_17 ?h1_17 ?h2_17 ?h3_17 ?hq_17 (Or.inl ⟨?hw_17, ?hy_17⟩) ?hs_17 ?rest_17; (case h2_17 => kernel_rfl); (case h3_17 => kernel_rfl); (case ho_17 => (simp only [List.getElem?_toArray, List.getElem?_cons_zero, List.getElem?_cons_succ]; rfl)); (case h1_17 => kernel_rfl); (case hq_17 => exact fun _ _ _ h => h); (case hw_17 => rfl); (case hy_17 => (intro w' hSw; refine exec_load_row (x := .tmp 25) ?_ ?_ (rq w' hSw) Try.underlying45 ?_ iq <;> rfl)); (case hs_17 => assumption); (try simp only [Act.put, List.setIfInBounds_toArray, List.set_cons_zero, List.set_cons_succ])
        refine wpAnyH_ready (rs := [8, 9]) (by kernel_rfl) (by simp) (AllReadyH.cons (o := ?oo8_18) ?hoo8_18 (fun K hK => ?step8) (AllReadyH.cons (o := ?oo9_18) ?hoo9_18 (fun K hK => ?step9) AllReadyH.nil)); (case hoo8_18 => (simp only [List.getElem?_toArray, List.getElem?_cons_zero, List.getElem?_cons_succ]; rfl)); (case hoo9_18 => (simp only [List.getElem?_toArray, List.getElem?_cons_zero, List.getElem?_cons_succ]; rfl))
        case step8 =>
          refine step_new rfl hzE rfl ?_
          have hS1 : S (w1.drew.alloc (.cells z 45)) := (Below.refl _ w1).drew.alloc (Nat.le_refl _) _
          have b1 : (w1.drew.alloc (.cells z 45)).heap[w1.heap.size]? = some (.cells z 45) := heap_alloc_new w1.drew _
          refine hK.out _ _ hS1 (fun _ => ?_)
          clear hK K
          (try simp only [Act.put, List.setIfInBounds_toArray, List.set_cons_zero, List.set_cons_succ])
          obtain ⟨U, hU⟩ : ∃ q, w1.drew.alloc (.cells z 45) = q := ⟨_, rfl⟩
          rw [hU] at hS1 b1 ⊢
          clear hU
          refine wpAnyH_ready (rs := [9]) (by kernel_rfl) (by simp) (AllReadyH.cons (o := ?oo9_19) ?hoo9_19 (fun K hK => ?steponly19) AllReadyH.nil); (case hoo9_19 => (simp only [List.getElem?_toArray, List.getElem?_cons_zero, List.getElem?_cons_succ]; rfl))
          refine step_new rfl hzE rfl ?_
          have hzU := (show Below w1.heap.size w1 U from hS1).size
          have hbA : Below U.heap.size U (U.alloc (.cells z 45)) := (Below.refl _ _).alloc (Nat.le_refl _) _
          have hS2 : S (U.alloc (.cells z 45)) := (show Below w1.heap.size w1 U from hS1).trans (hbA.mono hzU)
          have l1 := (Array.getElem?_eq_some_iff.1 b1).1
          have c1 := bBlk hbA l1 b1
          have c2 := heap_alloc_new U (.cells z 45)
          refine hK.out _ _ hS2 (fun _ => ?_)
          clear hK K
          (try simp only [Act.put, List.setIfInBounds_toArray, List.set_cons_zero, List.set_cons_succ])
          obtain ⟨UA, hUA⟩ : ∃ q, U.alloc (.cells z 45) = q := ⟨_, rfl⟩
          rw [hUA] at hS2 c1 c2 ⊢
          clear hUA hbA
          have hne : w1.heap.size ≠ U.heap.size := by omega
          refine wpAnyH_ready (rs := [10]) (by kernel_rfl) (by simp) (AllReadyH.cons (o := ?oo10_20) ?hoo10_20 (fun K hK => ?steponly20) AllReadyH.nil); (case hoo10_20 => (simp only [List.getElem?_toArray, List.getElem?_cons_zero, List.getElem?_cons_succ]; rfl))
          refine step_row rfl 45 (.tmp 6) (.tmp 22) rfl w1.heap.size x.cells.toArray rfl rfl _ z c1 jx hz5 ox ?_
          have hS3 : S (UA.setRow w1.heap.size x.cells.toArray) := bSetRow hS2 (by omega) _
          have d1 : (UA.setRow w1.heap.size x.cells.toArray).heap[w1.heap.size]? = some (.cells x.cells.toArray 45) := setRow_heap _ _ _ _ _ _ c1
          have d2 : (UA.setRow w1.heap.size x.cells.toArray).heap[U.heap.size]? = some (.cells z 45) := (setRow_other _ _ _ _ (by omega)).trans c2
          refine hK.out _ _ hS3 (fun _ => ?_)
          clear hK K
          (try simp only [Act.put, List.setIfInBounds_toArray, List.set_cons_zero, List.set_cons_succ])
          obtain ⟨UB, hUB⟩ : ∃ q, UA.setRow w1.heap.size x.cells.toArray = q := ⟨_, rfl⟩
          rw [hUB] at hS3 d1 d2 ⊢
          clear hUB
          refine wpAnyH_ready (rs := [11]) (by kernel_rfl) (by simp) (AllReadyH.cons (o := ?oo11_21) ?hoo11_21 (fun K hK => ?steponly21) AllReadyH.nil); (case hoo11_21 => (simp only [List.getElem?_toArray, List.getElem?_cons_zero, List.getElem?_cons_succ]; rfl))
          refine step_row rfl 45 (.tmp 7) (.tmp 26) rfl U.heap.size q.cells.toArray rfl rfl _ z d2 jq hz5' oq ?_
          have hS4 : S (UB.setRow U.heap.size q.cells.toArray) := bSetRow hS3 (by omega) _
          have g1 : (UB.setRow U.heap.size q.cells.toArray).heap[w1.heap.size]? = some (.cells x.cells.toArray 45) := (setRow_other _ _ _ _ (by omega)).trans d1
          have g2 : (UB.setRow U.heap.size q.cells.toArray).heap[U.heap.size]? = some (.cells q.cells.toArray 45) := setRow_heap _ _ _ _ _ _ d2
          refine hK.out _ _ hS4 (fun _ => ?_)
          clear hK K
          (try simp only [Act.put, List.setIfInBounds_toArray, List.set_cons_zero, List.set_cons_succ])
          refine wpAnyH_done (by kernel_rfl) ?_ _
          have HE := Lib.hid (And.intro g1 (And.intro g2 (show Below w1.heap.size w1 _ from hS4)))
          clear hS0 hS1 hS2 hS3 hS4 rx rq b1 c1 c2 d1 d2 g1 g2 l1
          go_wp2_with fail
          go_meet
          exact ⟨_, _, rfl, rfl, HE.out.1, HE.out.2.1, HE.out.2.2⟩
        case step9 =>
          refine step_new rfl hzE rfl ?_
          have hS1 : S (w1.drew.alloc (.cells z 45)) := (Below.refl _ w1).drew.alloc (Nat.le_refl _) _
          have b1 : (w1.drew.alloc (.cells z 45)).heap[w1.heap.size]? = some (.cells z 45) := heap_alloc_new w1.drew _
          refine hK.out _ _ hS1 (fun _ => ?_)
          clear hK K
          (try simp only [Act.put, List.setIfInBounds_toArray, List.set_cons_zero, List.set_cons_succ])
          obtain ⟨U, hU⟩ : ∃ q, w1.drew.alloc (.cells z 45) = q := ⟨_, rfl⟩
          rw [hU] at hS1 b1 ⊢
          clear hU
          refine wpAnyH_ready (rs := [8]) (by kernel_rfl) (by simp) (AllReadyH.cons (o := ?oo8_22) ?hoo8_22 (fun K hK => ?steponly22) AllReadyH.nil); (case hoo8_22 => (simp only [List.getElem?_toArray, List.getElem?_cons_zero, List.getElem?_cons_succ]; rfl))
          refine step_new rfl hzE rfl ?_
          have hzU := (show Below w1.heap.size w1 U from hS1).size
          have hbA : Below U.heap.size U (U.alloc (.cells z 45)) := (Below.refl _ _).alloc (Nat.le_refl _) _
          have hS2 : S (U.alloc (.cells z 45)) := (show Below w1.heap.size w1 U from hS1).trans (hbA.mono hzU)
          have l1 := (Array.getElem?_eq_some_iff.1 b1).1
          have c1 := bBlk hbA l1 b1
          have c2 := heap_alloc_new U (.cells z 45)
          refine hK.out _ _ hS2 (fun _ => ?_)
          clear hK K
          (try simp only [Act.put, List.setIfInBounds_toArray, List.set_cons_zero, List.set_cons_succ])
          obtain ⟨UA, hUA⟩ : ∃ q, U.alloc (.cells z 45) = q := ⟨_, rfl⟩
          rw [hUA] at hS2 c1 c2 ⊢
          clear hUA hbA
          have hne : w1.heap.size ≠ U.heap.size := by omega
          refine wpAnyH_ready (rs := [10]) (by kernel_rfl) (by simp) (AllReadyH.cons (o := ?oo10_23) ?hoo10_23 (fun K hK => ?steponly23) AllReadyH.nil); (case hoo10_23 => (simp only [List.getElem?_toArray, List.getElem?_cons_zero, List.getElem?_cons_succ]; rfl))
          refine step_row rfl 45 (.tmp 6) (.tmp 22) rfl U.heap.size x.cells.toArray rfl rfl _ z c2 jx hz5 ox ?_
          have hS3 : S (UA.setRow U.heap.size x.cells.toArray) := bSetRow hS2 (by omega) _
          have d1 : (UA.setRow U.heap.size x.cells.toArray).heap[U.heap.size]? = some (.cells x.cells.toArray 45) := setRow_heap _ _ _ _ _ _ c2
          have d2 : (UA.setRow U.heap.size x.cells.toArray).heap[w1.heap.size]? = some (.cells z 45) := (setRow_other _ _ _ _ (by omega)).trans c1
          refine hK.out _ _ hS3 (fun _ => ?_)
          clear hK K
          (try simp only [Act.put, List.setIfInBounds_toArray, List.set_cons_zero, List.set_cons_succ])
          obtain ⟨UB, hUB⟩ : ∃ q, UA.setRow U.heap.size x.cells.toArray = q := ⟨_, rfl⟩
          rw [hUB] at hS3 d1 d2 ⊢
          clear hUB
          refine wpAnyH_ready (rs := [11]) (by kernel_rfl) (by simp) (AllReadyH.cons (o := ?oo11_24) ?hoo11_24 (fun K hK => ?steponly24) AllReadyH.nil); (case hoo11_24 => (simp only [List.getElem?_toArray, List.getElem?_cons_zero, List.getElem?_cons_succ]; rfl))
          refine step_row rfl 45 (.tmp 7) (.tmp 26) rfl w1.heap.size q.cells.toArray rfl rfl _ z d2 jq hz5' oq ?_
          have hS4 : S (UB.setRow w1.heap.size q.cells.toArray) := bSetRow hS3 (by omega) _
          have g1 : (UB.setRow w1.heap.size q.cells.toArray).heap[U.heap.size]? = some (.cells x.cells.toArray 45) := (setRow_other _ _ _ _ (by omega)).trans d1
          have g2 : (UB.setRow w1.heap.size q.cells.toArray).heap[w1.heap.size]? = some (.cells q.cells.toArray 45) := setRow_heap _ _ _ _ _ _ d2
          refine hK.out _ _ hS4 (fun _ => ?_)
          clear hK K
          (try simp only [Act.put, List.setIfInBounds_toArray, List.set_cons_zero, List.set_cons_succ])
          refine wpAnyH_done (by kernel_rfl) ?_ _
          have HE := Lib.hid (And.intro g1 (And.intro g2 (show Below w1.heap.size w1 _ from hS4)))
          clear hS0 hS1 hS2 hS3 hS4 rx rq b1 c1 c2 d1 d2 g1 g2 l1
          go_wp2_with fail
          go_meet
          exact ⟨_, _, rfl, rfl, HE.out.1, HE.out.2.1, HE.out.2.2⟩
      case rest =>
        obtain ⟨e1, e2, rfl, rfl, he1, he2, hbx⟩ := hcut
        rename World => wc
        obtain ⟨x0, x1, x2, x3, x4⟩ := ln_cells (range_blk he1)
        obtain ⟨q0, q1, q2, q3, q4⟩ := ln_cells (range_blk he2)
        rw [Nat.zero_add] at x1 x2 x3 x4 q1 q2 q3 q4
        obtain ⟨hB0, hpx, hpq, s1, s2, s3, s4, hpv, hqv⟩ := HX.out
        rw [hpv] at x4
        rw [hqv] at q4
        rw [← s1] at q0
        rw [← s2] at q1
        rw [← s3] at q2
        rw [← s4] at q3
        have le1 := (Array.getElem?_eq_some_iff.1 he1).1
        have le2 := (Array.getElem?_eq_some_iff.1 he2).1
        have hcall := keepp_same wc (hpx.nxt hbx) (hpq.nxt hbx) (Nat.le_refl _) (Nat.le_refl _)
        have HB2 := Lib.hid (bNext hB0 hbx)
        obtain ⟨f0, hf0⟩ : ∃ f, x.kind = f := ⟨_, rfl⟩
        obtain ⟨f1, hf1⟩ : ∃ f, x.first = f := ⟨_, rfl⟩
        obtain ⟨f2, hf2⟩ : ∃ f, x.last = f := ⟨_, rfl⟩
        obtain ⟨f3, hf3⟩ : ∃ f, x.over = f := ⟨_, rfl⟩
        rw [hf0] at x0 q0
        rw [hf1] at x1 q1
        rw [hf2] at x2 q2
        rw [hf3] at x3 q3
        clear he1 he2 hbx hxr1 hqr1 ix iq jx jq ox oq hz5 hz5' hzE hqo hxo HX hB0 hpx hpq s1 s2 s3 s4 hpv hqv hf0 hf1 hf2 hf3
        go_wp2_with fail
        refine Calls.mono hcall ?_
        rintro e w3 ⟨rfl, hb3⟩
        have HB3 := Lib.hid (bNext HB2.out hb3)
        clear hcall hb3
        go_wp2_with fail
        go_roundw
        case rel => exact ⟨k + 1, by omega, by go_num, HB3.out⟩
        case measure => simp [intOf]; omega
    · obtain rfl : k = n := by omega
      have hi1 : ¬ (k : Int) < (k : Int) := by omega
      have HR := Lib.hid hBr
      clear hBr
      go_wp2_with fail
      go_ret
      exact Ret.mk rfl HR.out
set_option maxRecDepth 100000 in
theorem way_same {A A' : Option Addr} {n m c c' : Nat} {E : List Int} {t o : Int} (w : World) (ha : IvAt w w.heap.size A n c E) (hb : IvAt w w.heap.size A' m c' E) (hn : n ≤ 1000000) (hki : ∀ (w : World), IvAt w w.heap.size A n c E → IvAt w w.heap.size A' m c' E → Calls Try.prog 19 #[.slice A n c, .slice A' m c'] w (Ret w (.bool true))) :
    Calls Try.prog 13 #[wyv A n c t o, wyv A' m c' t o] w (Ret w (.bool true)) := by
  unfold wyv
  have hk := fun W (h : Below w.heap.size w W) => hki W (ha.nxt h) (hb.nxt h)
  clear ha hb hki
  go_enter Try.func13, Try.ntmps13
  go_upto_region 1 with (fail)
  obtain ⟨V, hV⟩ : ∃ q, (w.alloc (.cells #[.slice A n c, .int .i64 t, .int .i64 o] 35)).alloc (.cells #[.slice A' m c', .int .i64 t, .int .i64 o] 35) = q := ⟨_, rfl⟩
  have hB : Below w.heap.size w V := by rw [← hV]; exact ((Below.refl _ _).alloc (Nat.le_refl _) _).alloc (by simp) _
  have v2 : V.heap[w.heap.size]? = some (.cells #[.slice A n c, .int .i64 t, .int .i64 o] 35) := by rw [← hV]; exact (alloc_two _ _ _).1
  have v3 : V.heap[w.heap.size + 1]? = some (.cells #[.slice A' m c', .int .i64 t, .int .i64 o] 35) := by rw [← hV]; exact (alloc_two _ _ _).2
  rw [hV]
  clear hV
  have k20 : V.cell? ⟨w.heap.size, 0, none⟩ = some (.slice A n c) := blk_cell v2 rfl
  have k21 : V.cell? ⟨w.heap.size, 1, none⟩ = some (.int .i64 t) := blk_cell v2 rfl
  have k22 : V.cell? ⟨w.heap.size, 2, none⟩ = some (.int .i64 o) := blk_cell v2 rfl
  have k30 : V.cell? ⟨w.heap.size + 1, 0, none⟩ = some (.slice A' m c') := blk_cell v3 rfl
  have k31 : V.cell? ⟨w.heap.size + 1, 1, none⟩ = some (.int .i64 t) := blk_cell v3 rfl
  have k32 : V.cell? ⟨w.heap.size + 1, 2, none⟩ = some (.int .i64 o) := blk_cell v3 rfl
  have hc := hk V hB
  have HB := Lib.hid hB
  clear hk hB v2 v3
  go_wp2_with fail
  refine Calls.mono hc ?_
  rintro e w' ⟨rfl, hb⟩
  have HB2 := Lib.hid (bNext HB.out hb)
  clear hc hb
  go_wp2_with fail
  go_ret
  exact Ret.mk (vbool (by simp)) HB2.out
end Go.Proofs.Ytdnpcplboohdpaa
