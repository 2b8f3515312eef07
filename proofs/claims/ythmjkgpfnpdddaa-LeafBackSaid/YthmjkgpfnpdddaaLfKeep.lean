/- Equality of entries; are two lists of entries, of ints alike? (s7/lfkeep.py writes it.) -/
import Derived.Test.YthmjkgpfnpdddaaLfGood
namespace Go.Proofs.Ythmjkgpfnpdddaa
set_option linter.unusedSimpArgs false
set_option linter.unusedVariables false
open Go.RowKit Go.ChangeShapes Go.WideShapes Go.Sort

theorem part_int {P : Program} {t : TypeId} {k : IntKind} (hu : P.underlying t = some (.int k)) {cs : Array Value} {o : Nat} {v : Value} (h : cs[o]? = some v) (w : World) : (part t cs o).run P w = .ok v w := by
  simp [part, isAgg, run_underlying hu, h]
theorem part_arr {P : Program} {t e : TypeId} {n m : Nat} (hu : P.underlying t = some (.array n e)) (hs : (P.info? t).map (·.size) = some m) (cs : Array Value) (o : Nat) (w : World) : (part t cs o).run P w = .ok (.agg (cs.extract o (o + m))) w := by
  simp [part, isAgg, run_underlying hu, size_run hs]
theorem eqF_cons {P : Program} {d : Nat} {xs ys : Array Value} {f : Field} {fs : List Field} {a b : Value} {r : Bool} {w : World} (hn : f.name ≠ "_") (ha : (part f.type xs f.offset).run P w = .ok a w) (hb : (part f.type ys f.offset).run P w = .ok b w)
    (hr : (Op.equalIn d f.type a b).run P w = .ok r w) {R : Bool} (h : r = true → (Op.eqFields d xs ys fs).run P w = .ok R w) : (Op.eqFields d xs ys (f :: fs)).run P w = .ok (r && R) w := by
  unfold Op.eqFields
  rw [if_pos hn]
  simp only [Sem.run_bind, ha, hb, Result.andThen_ok, hr, Sem.run_ite, Sem.run_pure]
  cases r
  · simp
  · simpa using h rfl
theorem eqF_nil {P : Program} {d : Nat} {xs ys : Array Value} {w : World} : (Op.eqFields d xs ys []).run P w = .ok true w := by unfold Op.eqFields; rfl
theorem nd_name : ∀ (a b : String), a = b → b ≠ "_" → a ≠ "_" := fun a b e h => e ▸ h
theorem dg_q {n : Nat} {x y : List UInt8} (hx : x.length = 32) (hy : y.length = 32) (w : World) : (Op.equalIn (n + 2) 71 (.agg (bvs x).toArray) (.agg (bvs y).toArray)).run Try.prog w = .ok (x == y) w :=
  run_equalIn_bytes (P := Try.prog) w n 71 5 32 Try.underlying71 Try.underlying5 u8_sz x y hx hy
theorem ext_of {l : List Value} {o m : Nat} {v : List Value} (h : (l.drop o).take m = v) : l.toArray.extract o (o + m) = v.toArray := by rw [← h]; simp
def eqE (x y : EN) : Bool := (x.key == y.key) && ((x.place == y.place) && ((x.blocks == y.blocks) && (x.refs == y.refs)))
theorem eqE_iff {x y : EN} : eqE x y = true ↔ x = y := by
  obtain ⟨a, b, c, d⟩ := x
  obtain ⟨a', b', c', d'⟩ := y
  simp [eqE]
theorem en_tail {x : EN} (hx : x.Ok) : (x.cells.drop 0).take 32 = bvs x.key ∧ x.cells[32]? = some (.int .i64 x.place) ∧ x.cells[33]? = some (.int .i64 x.blocks) ∧ x.cells[34]? = some (.int .i64 x.refs) := by
  have h1 : (bvs x.key).length = 32 := by rw [bvs_len, hx.key]
  unfold EN.cells
  refine ⟨?_, ?_, ?_, ?_⟩
  · rw [List.drop_zero, ← h1, List.take_left]
  all_goals
    rw [List.getElem?_append_right (by omega), h1]
    rfl
theorem en_eq {x y : EN} (hx : x.Ok) (hy : y.Ok) (w : World) : (Op.equalIn 10000 73 (.agg x.cells.toArray) (.agg y.cells.toArray)).run Try.prog w = .ok (eqE x y) w := by
  have hf : ∃ fs, Try.prog.underlying 73 = some (.struct fs) ∧ (fs.toList.map fun f => (f.name, f.type, f.offset)) = [("Key", 71, 0), ("Place", 3, 32), ("Blocks", 3, 33), ("Refs", 3, 34)] := ⟨_, Try.underlying73, by kernel_rfl⟩
  obtain ⟨fs, hu, hl⟩ := hf
  have hfo : Try.prog.fieldsOf 73 = fs := by unfold Program.fieldsOf; rw [hu]
  rw [run_equalIn_struct w 9999 _ _ _ (by rw [hfo]; exact hu) (by kernel_rfl), hfo]
  have hlen : fs.toList.length = 4 := by have := congrArg List.length hl; simpa using this
  obtain ⟨x0, x1, x2, x3⟩ := en_tail hx
  obtain ⟨y0, y1, y2, y3⟩ := en_tail hy
  match fs.toList, hlen, hl with
  | [f0, f1, f2, f3], _, hl =>
    simp only [List.map_cons, List.map_nil, List.cons.injEq, Prod.mk.injEq, and_true] at hl
    obtain ⟨⟨n0, t0, o0⟩, ⟨n1, t1, o1⟩, ⟨n2, t2, o2⟩, ⟨n3, t3, o3⟩⟩ := hl
    have a0 := part_arr (P := Try.prog) Try.underlying71 (m := 32) (by kernel_rfl) x.cells.toArray 0 w
    have b0 := part_arr (P := Try.prog) Try.underlying71 (m := 32) (by kernel_rfl) y.cells.toArray 0 w
    rw [ext_of x0] at a0
    rw [ext_of y0] at b0
    have a1 := part_int (P := Try.prog) Try.underlying3 (cs := x.cells.toArray) (o := 32) (v := .int .i64 x.place) (by rw [List.getElem?_toArray]; exact x1) w
    have b1 := part_int (P := Try.prog) Try.underlying3 (cs := y.cells.toArray) (o := 32) (v := .int .i64 y.place) (by rw [List.getElem?_toArray]; exact y1) w
    have a2 := part_int (P := Try.prog) Try.underlying3 (cs := x.cells.toArray) (o := 33) (v := .int .i64 x.blocks) (by rw [List.getElem?_toArray]; exact x2) w
    have b2 := part_int (P := Try.prog) Try.underlying3 (cs := y.cells.toArray) (o := 33) (v := .int .i64 y.blocks) (by rw [List.getElem?_toArray]; exact y2) w
    have a3 := part_int (P := Try.prog) Try.underlying3 (cs := x.cells.toArray) (o := 34) (v := .int .i64 x.refs) (by rw [List.getElem?_toArray]; exact x3) w
    have b3 := part_int (P := Try.prog) Try.underlying3 (cs := y.cells.toArray) (o := 34) (v := .int .i64 y.refs) (by rw [List.getElem?_toArray]; exact y3) w
    have q0 := dg_q (n := 9997) hx.key hy.key w
    have q1 : (Op.equalIn 9999 3 (.int .i64 x.place) (.int .i64 y.place)).run Try.prog w = .ok (x.place == y.place) w := run_equalIn_int w 9998 _ .i64 .i64 _ _ Try.underlying3
    have q2 : (Op.equalIn 9999 3 (.int .i64 x.blocks) (.int .i64 y.blocks)).run Try.prog w = .ok (x.blocks == y.blocks) w := run_equalIn_int w 9998 _ .i64 .i64 _ _ Try.underlying3
    have q3 : (Op.equalIn 9999 3 (.int .i64 x.refs) (.int .i64 y.refs)).run Try.prog w = .ok (x.refs == y.refs) w := run_equalIn_int w 9998 _ .i64 .i64 _ _ Try.underlying3
    rw [← t0, ← o0] at a0 b0
    rw [← t1, ← o1] at a1 b1
    rw [← t2, ← o2] at a2 b2
    rw [← t3, ← o3] at a3 b3
    rw [← t0] at q0
    rw [← t1] at q1
    rw [← t2] at q2
    rw [← t3] at q3
    unfold eqE
    refine eqF_cons (nd_name _ _ n0 (by decide)) a0 b0 q0 fun _ => ?_
    refine eqF_cons (nd_name _ _ n1 (by decide)) a1 b1 q1 fun _ => ?_
    refine eqF_cons (nd_name _ _ n2 (by decide)) a2 b2 q2 fun _ => ?_
    have := eqF_cons (nd_name _ _ n3 (by decide)) a3 b3 q3 (fun _ => eqF_nil)
    rw [Bool.and_true] at this
    exact this
/-- ints in memory -/
def ivs (l : List Int) : List Value := l.map (Value.int .i64)
theorem ivs_len (l : List Int) : (ivs l).length = l.length := by simp [ivs]
structure IvAt (w : World) (B : Nat) (A : Option Addr) (n c : Nat) (l : List Int) : Prop where
  wide : ∀ x ∈ l, -9223372036854775808 ≤ x ∧ x ≤ 9223372036854775807
  len : l.length = n
  sl : Sl w B 1 A n (ivs l)
  cap : n ≤ c
theorem IvAt.below {w w' : World} {B : Nat} {A : Option Addr} {n c : Nat} {l : List Int} (h : IvAt w B A n c l) (hb : Below B w w') : IvAt w' B A n c l := ⟨h.wide, h.len, h.sl.below hb, h.cap⟩
theorem IvAt.nxt {w w' : World} {A : Option Addr} {n c : Nat} {l : List Int} (h : IvAt w w.heap.size A n c l) (hb : Below w.heap.size w w') : IvAt w' w'.heap.size A n c l := ⟨h.wide, h.len, h.sl.next hb, h.cap⟩
theorem IvAt.entry {w : World} {B : Nat} {A : Option Addr} {n c : Nat} {l : List Int} (h : IvAt w B A n c l) {k : Nat} {x : Int} (hx : l[k]? = some x) : ∃ b o, A = some ⟨b, o, none⟩ ∧ b < B ∧ w.cell? ⟨b, o + k, none⟩ = some (.int .i64 x) := by
  obtain ⟨hk, -⟩ := List.getElem?_eq_some_iff.1 hx
  have hl := h.len
  obtain ⟨b, o, e, hb, hr⟩ := h.sl.at_ (by omega)
  exact ⟨b, o, e, hb, hr k _ (by simp [ivs, hx])⟩
set_option maxHeartbeats 8000000 in
set_option maxRecDepth 100000 in
theorem keepe_any {A A' : Option Addr} {n m c c' B B' : Nat} {la lb : List EN} (w : World) (ha : LfAt w B A n c la) (hb : LfAt w B' A' m c' lb) (hB : B ≤ w.heap.size) (hB' : B' ≤ w.heap.size) (hn : n ≤ 1000000) :
    Calls Try.prog 34 #[.slice A n c, .slice A' m c'] w (Ret w (.bool (decide (la = lb)))) := by
  have hln := ha.len
  have hlm := hb.len
  have HA := Lib.hid ha
  have HB := Lib.hid hb
  by_cases hnm : n = m
  · subst hnm
    have HN := Lib.hid (And.intro hln hlm)
    clear hln hlm ha hb
    go_enter Try.func34, Try.ntmps34
    go_wp2_with fail
    go_loopw [5] (fun i wr => ∃ k : Nat, k ≤ n ∧ i = .int .i64 k ∧ Below w.heap.size w wr ∧ (∀ j : Nat, j < k → la[j]? = lb[j]?)) (fun i _ => n - (intOf i).toNat)
    case atStart => exact ⟨0, by omega, rfl, Below.refl _ _, fun j hj => absurd hj (by omega)⟩
    case round =>
      obtain ⟨k, hk, rfl, hBr, hne⟩ := hrel
      by_cases hlt : k < n
      · obtain ⟨x, hx⟩ : ∃ x, la[k]? = some x := ⟨_, List.getElem?_eq_getElem (by rw [HN.out.1]; exact hlt)⟩
        obtain ⟨y, hy⟩ : ∃ y, lb[k]? = some y := ⟨_, List.getElem?_eq_getElem (by rw [HN.out.2]; exact hlt)⟩
        have hxo := HA.out.ok x (List.mem_of_getElem? hx)
        have hyo := HB.out.ok y (List.mem_of_getElem? hy)
        obtain ⟨b, o, rfl, hbB, hxr⟩ := HA.out.entry hx
        obtain ⟨b', o', rfl, hbB', hyr⟩ := HB.out.entry hy
        have hi1 : (k : Int) < (n : Int) := by omega
        have hxi := en_linfo hxo
        have hyi := en_linfo hyo
        have hq := fun w => en_eq hxo hyo w
        obtain ⟨q, hqq⟩ : ∃ q, eqE x y = q := ⟨_, rfl⟩
        simp only [hqq] at hq
        let S : World → Prop := fun w' => Below w.heap.size w w'
        have r1 : ∀ w', S w' → w'.rangeAt b (o + k * 35) x.cells := fun w' h => bRange h (by omega) hxr
        have r2 : ∀ w', S w' → w'.rangeAt b' (o' + k * 35) y.cells := fun w' h => bRange h (by omega) hyr
        have hS0 : S wr.drew := hBr.drew
        have HX := Lib.hid (And.intro hx (And.intro hy (And.intro hne (And.intro hqq hBr))))
        clear hx hy hne hqq hxr hyr hBr
        go_upto_region 6 with (fail)
        refine wp_region_held (S := S) (by kernel_rfl) ?_
        change wpAnyH _ _ _ _ S _ _ _ wr.drew
        refine wpAnyH_take (i := 0) (oi := ?oi_1120) (v := ?v_1120) ?ho_1120 ?h1_1120 ?h2_1120 ?h3_1120 ?hq_1120 (Or.inl ⟨?hw_1120, ?hy_1120⟩) ?hs_1120 ?rest_1120; (case h2_1120 => kernel_rfl); (case h3_1120 => kernel_rfl); (case ho_1120 => (simp only [List.getElem?_toArray, List.getElem?_cons_zero, List.getElem?_cons_succ]; rfl)); (case h1_1120 => kernel_rfl); (case hq_1120 => exact fun _ _ _ h => h); (case hw_1120 => rfl); (case hy_1120 => (intro w' hSw; (try simp only [S] at hSw); go_simp; (try with_reducible rfl))); (case hs_1120 => assumption); (try simp only [Act.put, List.setIfInBounds_toArray, List.set_cons_zero, List.set_cons_succ])
        refine wpAnyH_take (i := 1) (oi := ?oi_1121) (v := ?v_1121) ?ho_1121 ?h1_1121 ?h2_1121 ?h3_1121 ?hq_1121 (Or.inl ⟨?hw_1121, ?hy_1121⟩) ?hs_1121 ?rest_1121; (case h2_1121 => kernel_rfl); (case h3_1121 => kernel_rfl); (case ho_1121 => (simp only [List.getElem?_toArray, List.getElem?_cons_zero, List.getElem?_cons_succ]; rfl)); (case h1_1121 => kernel_rfl); (case hq_1121 => exact fun _ _ _ h => h); (case hw_1121 => rfl); (case hy_1121 => (intro w' hSw; (try simp only [S] at hSw); go_simp; (try with_reducible rfl))); (case hs_1121 => assumption); (try simp only [Act.put, List.setIfInBounds_toArray, List.set_cons_zero, List.set_cons_succ])
        refine wpAnyH_take (i := 2) (oi := ?oi_1122) (v := ?v_1122) ?ho_1122 ?h1_1122 ?h2_1122 ?h3_1122 ?hq_1122 (Or.inl ⟨?hw_1122, ?hy_1122⟩) ?hs_1122 ?rest_1122; (case h2_1122 => kernel_rfl); (case h3_1122 => kernel_rfl); (case ho_1122 => (simp only [List.getElem?_toArray, List.getElem?_cons_zero, List.getElem?_cons_succ]; rfl)); (case h1_1122 => kernel_rfl); (case hq_1122 => exact fun _ _ _ h => h); (case hw_1122 => rfl); (case hy_1122 => (intro w' hSw; (try simp only [S] at hSw); go_simp; (try with_reducible rfl))); (case hs_1122 => assumption); (try simp only [Act.put, List.setIfInBounds_toArray, List.set_cons_zero, List.set_cons_succ])
        refine wpAnyH_take (i := 3) (oi := ?oi_1127) (v := ?v_1127) ?ho_1127 ?h1_1127 ?h2_1127 ?h3_1127 ?hq_1127 (Or.inl ⟨?hw_1127, ?hy_1127⟩) ?hs_1127 ?rest_1127; (case h2_1127 => kernel_rfl); (case h3_1127 => kernel_rfl); (case ho_1127 => (simp only [List.getElem?_toArray, List.getElem?_cons_zero, List.getElem?_cons_succ]; rfl)); (case h1_1127 => kernel_rfl); (case hq_1127 => exact fun _ _ _ h => h); (case hw_1127 => rfl); (case hy_1127 => (intro w' hSw; refine exec_load_row (x := .tmp 19) ?_ ?_ (r1 w' hSw) Try.underlying73 ?_ hxi <;> rfl)); (case hs_1127 => assumption); (try simp only [Act.put, List.setIfInBounds_toArray, List.set_cons_zero, List.set_cons_succ])
        refine wpAnyH_take (i := 4) (oi := ?oi_1123) (v := ?v_1123) ?ho_1123 ?h1_1123 ?h2_1123 ?h3_1123 ?hq_1123 (Or.inl ⟨?hw_1123, ?hy_1123⟩) ?hs_1123 ?rest_1123; (case h2_1123 => kernel_rfl); (case h3_1123 => kernel_rfl); (case ho_1123 => (simp only [List.getElem?_toArray, List.getElem?_cons_zero, List.getElem?_cons_succ]; rfl)); (case h1_1123 => kernel_rfl); (case hq_1123 => exact fun _ _ _ h => h); (case hw_1123 => rfl); (case hy_1123 => (intro w' hSw; (try simp only [S] at hSw); go_simp; (try with_reducible rfl))); (case hs_1123 => assumption); (try simp only [Act.put, List.setIfInBounds_toArray, List.set_cons_zero, List.set_cons_succ])
        refine wpAnyH_take (i := 5) (oi := ?oi_1124) (v := ?v_1124) ?ho_1124 ?h1_1124 ?h2_1124 ?h3_1124 ?hq_1124 (Or.inl ⟨?hw_1124, ?hy_1124⟩) ?hs_1124 ?rest_1124; (case h2_1124 => kernel_rfl); (case h3_1124 => kernel_rfl); (case ho_1124 => (simp only [List.getElem?_toArray, List.getElem?_cons_zero, List.getElem?_cons_succ]; rfl)); (case h1_1124 => kernel_rfl); (case hq_1124 => exact fun _ _ _ h => h); (case hw_1124 => rfl); (case hy_1124 => (intro w' hSw; (try simp only [S] at hSw); go_simp; (try with_reducible rfl))); (case hs_1124 => assumption); (try simp only [Act.put, List.setIfInBounds_toArray, List.set_cons_zero, List.set_cons_succ])
        refine wpAnyH_take (i := 6) (oi := ?oi_1125) (v := ?v_1125) ?ho_1125 ?h1_1125 ?h2_1125 ?h3_1125 ?hq_1125 (Or.inl ⟨?hw_1125, ?hy_1125⟩) ?hs_1125 ?rest_1125; (case h2_1125 => kernel_rfl); (case h3_1125 => kernel_rfl); (case ho_1125 => (simp only [List.getElem?_toArray, List.getElem?_cons_zero, List.getElem?_cons_succ]; rfl)); (case h1_1125 => kernel_rfl); (case hq_1125 => exact fun _ _ _ h => h); (case hw_1125 => rfl); (case hy_1125 => (intro w' hSw; (try simp only [S] at hSw); go_simp; (try with_reducible rfl))); (case hs_1125 => assumption); (try simp only [Act.put, List.setIfInBounds_toArray, List.set_cons_zero, List.set_cons_succ])
        refine wpAnyH_take (i := 7) (oi := ?oi_1128) (v := ?v_1128) ?ho_1128 ?h1_1128 ?h2_1128 ?h3_1128 ?hq_1128 (Or.inl ⟨?hw_1128, ?hy_1128⟩) ?hs_1128 ?rest_1128; (case h2_1128 => kernel_rfl); (case h3_1128 => kernel_rfl); (case ho_1128 => (simp only [List.getElem?_toArray, List.getElem?_cons_zero, List.getElem?_cons_succ]; rfl)); (case h1_1128 => kernel_rfl); (case hq_1128 => exact fun _ _ _ h => h); (case hw_1128 => rfl); (case hy_1128 => (intro w' hSw; refine exec_load_row (x := .tmp 23) ?_ ?_ (r2 w' hSw) Try.underlying73 ?_ hyi <;> rfl)); (case hs_1128 => assumption); (try simp only [Act.put, List.setIfInBounds_toArray, List.set_cons_zero, List.set_cons_succ])
        refine wpAnyH_take (i := 8) (oi := ?oi_1126) (v := ?v_1126) ?ho_1126 ?h1_1126 ?h2_1126 ?h3_1126 ?hq_1126 (Or.inl ⟨?hw_1126, ?hy_1126⟩) ?hs_1126 ?rest_1126; (case h2_1126 => kernel_rfl); (case h3_1126 => kernel_rfl); (case ho_1126 => (simp only [List.getElem?_toArray, List.getElem?_cons_zero, List.getElem?_cons_succ]; rfl)); (case h1_1126 => kernel_rfl); (case hq_1126 => exact fun _ _ _ h => h); (case hw_1126 => rfl); (case hy_1126 => (intro w' hSw; (try simp only [S] at hSw); go_simp; (try with_reducible rfl))); (case hs_1126 => assumption); (try simp only [Act.put, List.setIfInBounds_toArray, List.set_cons_zero, List.set_cons_succ])
        refine wpAnyH_done (by kernel_rfl) ?_ _
        clear hS0 r1 r2
        obtain ⟨hx, hy, hne, hqq, hBr⟩ := HX.out
        cases q
        · have HR := Lib.hid (And.intro hx (And.intro hy (And.intro hqq hBr)))
          clear hx hy hne hqq hBr HX
          go_wp2_with fail
          go_ret
          obtain ⟨hx, hy, hqq, hBr⟩ := HR.out
          refine Ret.mk (vbool ?_) hBr.drew
          rw [eq_comm, decide_eq_false]
          rintro e
          rw [e, hy] at hx
          injection hx with e2
          rw [eqE_iff.2 e2.symm] at hqq
          cases hqq
        · have exy := eqE_iff.1 hqq
          have HR := Lib.hid (And.intro hx (And.intro hy (And.intro hne (And.intro exy hBr))))
          clear hx hy hne hqq hBr HX exy
          go_wp2_with fail
          go_roundw
          case rel => exact ⟨k + 1, by omega, by go_num, HR.out.2.2.2.2.drew, fun j hj => by
            rcases Nat.lt_or_ge j k with h | h
            · exact HR.out.2.2.1 j h
            · obtain rfl : j = k := by omega
              rw [HR.out.1, HR.out.2.1, HR.out.2.2.2.1]⟩
          case measure => simp [intOf]; omega
      · obtain rfl : k = n := by omega
        have hi1 : ¬ (k : Int) < (k : Int) := by omega
        have HR := Lib.hid (And.intro hne hBr)
        clear hne hBr
        go_wp2_with fail
        go_ret
        refine Ret.mk (vbool ?_) HR.out.2
        rw [eq_comm, decide_eq_true]
        refine List.ext_getElem? fun j => ?_
        rcases Nat.lt_or_ge j k with h | h
        · exact HR.out.1 j h
        · rw [List.getElem?_eq_none (by rw [HN.out.1]; exact h), List.getElem?_eq_none (by rw [HN.out.2]; exact h)]
  · have e : Hid (decide (la = lb) = false) := Lib.hid (by rw [decide_eq_false]; rintro rfl; omega)
    have hnm' : (n : Int) ≠ (m : Int) := by omega
    clear hln hlm ha hb
    go_enter Try.func34, Try.ntmps34
    go_wp2_with fail
    go_ret
    exact Ret.mk (vbool e.out.symm) (by repeat (first | (with_reducible exact Below.refl _ _) | (with_reducible refine bDrewN ?_ _) | (with_reducible refine Below.drew ?_) | (with_reducible refine Below.alloc ?_ ?_ _) | (with_reducible refine Below.setCell ?_ ?_ _) | (with_reducible assumption) | go_size))

set_option maxHeartbeats 8000000 in
set_option maxRecDepth 100000 in
theorem keepi_any {A A' : Option Addr} {n m c c' B B' : Nat} {la lb : List Int} (w : World) (ha : IvAt w B A n c la) (hb : IvAt w B' A' m c' lb) (hB : B ≤ w.heap.size) (hB' : B' ≤ w.heap.size) (hn : n ≤ 1000000) :
    Calls Try.prog 35 #[.slice A n c, .slice A' m c'] w (Ret w (.bool (decide (la = lb)))) := by
  have hln := ha.len
  have hlm := hb.len
  have HA := Lib.hid ha
  have HB := Lib.hid hb
  by_cases hnm : n = m
  · subst hnm
    have HN := Lib.hid (And.intro hln hlm)
    clear hln hlm ha hb
    go_enter Try.func35, Try.ntmps35
    go_wp2_with fail
    go_loopw [5] (fun i wr => ∃ k : Nat, k ≤ n ∧ i = .int .i64 k ∧ Below w.heap.size w wr ∧ (∀ j : Nat, j < k → la[j]? = lb[j]?)) (fun i _ => n - (intOf i).toNat)
    case atStart => exact ⟨0, by omega, rfl, Below.refl _ _, fun j hj => absurd hj (by omega)⟩
    case round =>
      obtain ⟨k, hk, rfl, hBr, hne⟩ := hrel
      by_cases hlt : k < n
      · obtain ⟨x, hx⟩ : ∃ x, la[k]? = some x := ⟨_, List.getElem?_eq_getElem (by rw [HN.out.1]; exact hlt)⟩
        obtain ⟨y, hy⟩ : ∃ y, lb[k]? = some y := ⟨_, List.getElem?_eq_getElem (by rw [HN.out.2]; exact hlt)⟩
        obtain ⟨b, o, rfl, hbB, hxr⟩ := HA.out.entry hx
        obtain ⟨b', o', rfl, hbB', hyr⟩ := HB.out.entry hy
        have hi1 : (k : Int) < (n : Int) := by omega
        have hxr1 := (hBr.cell (p := ⟨b, o + k, none⟩) (by show b < _; omega)).trans hxr
        have hyr1 := (hBr.cell (p := ⟨b', o' + k, none⟩) (by show b' < _; omega)).trans hyr
        have HX := Lib.hid (And.intro hx (And.intro hy (And.intro hne hBr)))
        clear hx hy hne hxr hyr hBr
        by_cases hxy : x = y
        · subst hxy
          go_upto_region 6 with (fail)
          go_quiet (fail)
          obtain ⟨V, hV⟩ : ∃ q, wr.drewN nq = q := ⟨_, rfl⟩
          have hbV : Below wr.heap.size wr V := by rw [← hV]; exact bDrewN (Below.refl _ _) nq
          rw [hV]
          clear hV
          obtain ⟨hx, hy, hne, hBr⟩ := HX.out
          have HR := Lib.hid (And.intro hx (And.intro hy (And.intro hne (bNext hBr hbV))))
          clear hx hy hne hBr HX hxr1 hyr1 hbV
          go_wp2_with fail
          go_roundw
          case rel => exact ⟨k + 1, by omega, by go_num, HR.out.2.2.2, fun j hj => by
            rcases Nat.lt_or_ge j k with h | h
            · exact HR.out.2.2.1 j h
            · obtain rfl : j = k := by omega
              rw [HR.out.1, HR.out.2.1]⟩
          case measure => simp [intOf]; omega
        · go_upto_region 6 with (fail)
          go_quiet (fail)
          obtain ⟨V, hV⟩ : ∃ q, wr.drewN nq = q := ⟨_, rfl⟩
          have hbV : Below wr.heap.size wr V := by rw [← hV]; exact bDrewN (Below.refl _ _) nq
          rw [hV]
          clear hV
          have HR := Lib.hid (And.intro HX.out (And.intro hbV hxy))
          clear HX hxr1 hyr1 hbV
          go_wp2_with fail
          go_ret
          obtain ⟨⟨hx, hy, -, hBr⟩, hbV, hxy⟩ := HR.out
          refine Ret.mk (vbool ?_) (bNext hBr hbV)
          rw [eq_comm, decide_eq_false]
          rintro e
          rw [e, hy] at hx
          injection hx with e2
          exact hxy e2.symm
      · obtain rfl : k = n := by omega
        have hi1 : ¬ (k : Int) < (k : Int) := by omega
        have HR := Lib.hid (And.intro hne hBr)
        clear hne hBr
        go_wp2_with fail
        go_ret
        refine Ret.mk (vbool ?_) HR.out.2
        rw [eq_comm, decide_eq_true]
        refine List.ext_getElem? fun j => ?_
        rcases Nat.lt_or_ge j k with h | h
        · exact HR.out.1 j h
        · rw [List.getElem?_eq_none (by rw [HN.out.1]; exact h), List.getElem?_eq_none (by rw [HN.out.2]; exact h)]
  · have e : Hid (decide (la = lb) = false) := Lib.hid (by rw [decide_eq_false]; rintro rfl; omega)
    have hnm' : (n : Int) ≠ (m : Int) := by omega
    clear hln hlm ha hb
    go_enter Try.func35, Try.ntmps35
    go_wp2_with fail
    go_ret
    exact Ret.mk (vbool e.out.symm) (by repeat (first | (with_reducible exact Below.refl _ _) | (with_reducible refine bDrewN ?_ _) | (with_reducible refine Below.drew ?_) | (with_reducible refine Below.alloc ?_ ?_ _) | (with_reducible refine Below.setCell ?_ ?_ _) | (with_reducible assumption) | go_size))
end Go.Proofs.Ythmjkgpfnpdddaa
