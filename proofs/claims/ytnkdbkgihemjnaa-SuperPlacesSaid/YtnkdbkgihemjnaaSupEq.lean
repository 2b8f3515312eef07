/- Two superblocks: alike? -/
import Derived.Test.YtnkdbkgihemjnaaSupBack
import Derived.Test.YtnkdbkgihemjnaaDskWakes
namespace Go.Proofs.Ytnkdbkgihemjnaa
set_option linter.unusedSimpArgs false
set_option linter.unusedVariables false
open Go.RowKit

def eqS (x y : SP) : Bool := (x.gen == y.gen) && ((x.blocks == y.blocks) && ((x.root == y.root) && ((x.log == y.log) && (x.used == y.used))))
theorem eqS_iff {x y : SP} : eqS x y = true ↔ x = y := by
  obtain ⟨a, b, c, d, e⟩ := x
  obtain ⟨a', b', c', d', e'⟩ := y
  simp [eqS]
theorem eqS_same (x : SP) : eqS x x = true := eqS_iff.2 rfl
theorem size_run {P : Program} {t : TypeId} {n : Nat} (h : (P.info? t).map (·.size) = some n) (w : World) : (sizeOf t).run P w = .ok n w := by
  cases hq : P.info? t with
  | none => rw [hq] at h; cases h
  | some i =>
    rw [hq] at h
    have hs : i.size = n := by simpa using h
    simp [sizeOf, typeInfo, hq, hs]
theorem part_int {P : Program} {t : TypeId} {k : IntKind} (hu : P.underlying t = some (.int k)) {cs : Array Value} {o : Nat} {v : Value} (h : cs[o]? = some v) (w : World) : (part t cs o).run P w = .ok v w := by
  simp [part, isAgg, run_underlying hu, h]
theorem part_arr {P : Program} {t e : TypeId} {n m : Nat} (hu : P.underlying t = some (.array n e)) (hs : (P.info? t).map (·.size) = some m) (cs : Array Value) (o : Nat) (w : World) : (part t cs o).run P w = .ok (.agg (cs.extract o (o + m))) w := by
  simp [part, isAgg, run_underlying hu, size_run hs]
theorem sp_log {x : SP} (h : x.Ok) : x.cells.toArray.extract 3 35 = (bvs x.log).toArray := by
  have e : (x.cells.drop 3).take 32 = bvs x.log := by
    show ((bvs x.log ++ bvs x.used).take 32) = _
    rw [← h.log, ← bvs_len, List.take_left]
  rw [← e]; simp
theorem sp_used {x : SP} (h : x.Ok) : x.cells.toArray.extract 35 51 = (bvs x.used).toArray := by
  have e : (x.cells.drop 35).take 16 = bvs x.used := by
    show ((bvs x.log ++ bvs x.used).drop 32).take 16 = _
    rw [show (bvs x.log ++ bvs x.used).drop 32 = bvs x.used from by rw [← h.log, ← bvs_len, List.drop_left], ← h.used, ← bvs_len, List.take_length]
  rw [← e]; simp
theorem eqF_cons {P : Program} {d : Nat} {xs ys : Array Value} {f : Field} {fs : List Field} {a b : Value} {r : Bool} {w : World} (hn : f.name ≠ "_") (ha : (part f.type xs f.offset).run P w = .ok a w) (hb : (part f.type ys f.offset).run P w = .ok b w)
    (hr : (Op.equalIn d f.type a b).run P w = .ok r w) {R : Bool} (h : r = true → (Op.eqFields d xs ys fs).run P w = .ok R w) : (Op.eqFields d xs ys (f :: fs)).run P w = .ok (r && R) w := by
  unfold Op.eqFields
  rw [if_pos hn]
  simp only [Sem.run_bind, ha, hb, Result.andThen_ok, hr, Sem.run_ite, Sem.run_pure]
  cases r
  · simp
  · simpa using h rfl
theorem eqF_nil {P : Program} {d : Nat} {xs ys : Array Value} {w : World} : (Op.eqFields d xs ys []).run P w = .ok true w := by unfold Op.eqFields; rfl
theorem sp_eq {x y : SP} (hx : x.Ok) (hy : y.Ok) (w : World) : (Op.equalIn 10000 38 (.agg x.cells.toArray) (.agg y.cells.toArray)).run Try.prog w = .ok (eqS x y) w := by
  have hf : ∃ fs, Try.prog.underlying 38 = some (.struct fs) ∧ (fs.toList.map fun f => (f.name, f.type, f.offset)) = [("Gen", 32, 0), ("Blocks", 3, 1), ("Root", 3, 2), ("Log", 34, 3), ("Used", 36, 35)] := ⟨_, Try.underlying38, by kernel_rfl⟩
  obtain ⟨fs, hu, hl⟩ := hf
  have hfo : Try.prog.fieldsOf 38 = fs := by unfold Program.fieldsOf; rw [hu]
  rw [run_equalIn_struct w 9999 _ _ _ (by rw [hfo]; exact hu) (by kernel_rfl), hfo]
  have hlen : fs.toList.length = 5 := by have := congrArg List.length hl; simpa using this
  match fs.toList, hlen, hl with
  | [f0, f1, f2, f3, f4], _, hl =>
    simp only [List.map_cons, List.map_nil, List.cons.injEq, Prod.mk.injEq, and_true] at hl
    obtain ⟨⟨n0, t0, o0⟩, ⟨n1, t1, o1⟩, ⟨n2, t2, o2⟩, ⟨n3, t3, o3⟩, ⟨n4, t4, o4⟩⟩ := hl
    have a0 := part_int (P := Try.prog) Try.underlying32 (cs := x.cells.toArray) (o := 0) (v := .int .u32 (x.gen : Int)) rfl w
    have b0 := part_int (P := Try.prog) Try.underlying32 (cs := y.cells.toArray) (o := 0) (v := .int .u32 (y.gen : Int)) rfl w
    have a1 := part_int (P := Try.prog) Try.underlying3 (cs := x.cells.toArray) (o := 1) (v := .int .i64 x.blocks) rfl w
    have b1 := part_int (P := Try.prog) Try.underlying3 (cs := y.cells.toArray) (o := 1) (v := .int .i64 y.blocks) rfl w
    have a2 := part_int (P := Try.prog) Try.underlying3 (cs := x.cells.toArray) (o := 2) (v := .int .i64 x.root) rfl w
    have b2 := part_int (P := Try.prog) Try.underlying3 (cs := y.cells.toArray) (o := 2) (v := .int .i64 y.root) rfl w
    have a3 := part_arr (P := Try.prog) Try.underlying34 (m := 32) (by kernel_rfl) x.cells.toArray 3 w
    have b3 := part_arr (P := Try.prog) Try.underlying34 (m := 32) (by kernel_rfl) y.cells.toArray 3 w
    have a4 := part_arr (P := Try.prog) Try.underlying36 (m := 16) (by kernel_rfl) x.cells.toArray 35 w
    have b4 := part_arr (P := Try.prog) Try.underlying36 (m := 16) (by kernel_rfl) y.cells.toArray 35 w
    rw [sp_log hx] at a3
    rw [sp_log hy] at b3
    rw [sp_used hx] at a4
    rw [sp_used hy] at b4
    have q3 : (Op.equalIn 9999 34 (.agg (bvs x.log).toArray) (.agg (bvs y.log).toArray)).run Try.prog w = .ok (x.log == y.log) w :=
      run_equalIn_bytes (P := Try.prog) w 9997 34 5 32 Try.underlying34 Try.underlying5 u8_sizeOf' x.log y.log hx.log hy.log
    have q4 : (Op.equalIn 9999 36 (.agg (bvs x.used).toArray) (.agg (bvs y.used).toArray)).run Try.prog w = .ok (x.used == y.used) w :=
      run_equalIn_bytes (P := Try.prog) w 9997 36 5 16 Try.underlying36 Try.underlying5 u8_sizeOf' x.used y.used hx.used hy.used
    have q0 : (Op.equalIn 9999 32 (.int .u32 (x.gen : Int)) (.int .u32 (y.gen : Int))).run Try.prog w = .ok ((x.gen : Int) == (y.gen : Int)) w := run_equalIn_int w 9998 _ .u32 .u32 _ _ Try.underlying32
    have q1 : (Op.equalIn 9999 3 (.int .i64 x.blocks) (.int .i64 y.blocks)).run Try.prog w = .ok (x.blocks == y.blocks) w := run_equalIn_int w 9998 _ .i64 .i64 _ _ Try.underlying3
    have q2 : (Op.equalIn 9999 3 (.int .i64 x.root) (.int .i64 y.root)).run Try.prog w = .ok (x.root == y.root) w := run_equalIn_int w 9998 _ .i64 .i64 _ _ Try.underlying3
    have e0 : ((x.gen : Int) == (y.gen : Int)) = (x.gen == y.gen) := by rw [Bool.eq_iff_iff]; simp [Int.ofNat_inj]
    rw [e0] at q0
    have nd : ∀ (a b : String), a = b → b ≠ "_" → a ≠ "_" := fun a b e h => e ▸ h
    rw [← t0, ← o0] at a0 b0
    rw [← t1, ← o1] at a1 b1
    rw [← t2, ← o2] at a2 b2
    rw [← t3, ← o3] at a3 b3
    rw [← t4, ← o4] at a4 b4
    rw [← t0] at q0
    rw [← t1] at q1
    rw [← t2] at q2
    rw [← t3] at q3
    rw [← t4] at q4
    unfold eqS
    refine eqF_cons (nd _ _ n0 (by decide)) a0 b0 q0 fun _ => eqF_cons (nd _ _ n1 (by decide)) a1 b1 q1 fun _ => eqF_cons (nd _ _ n2 (by decide)) a2 b2 q2 fun _ => eqF_cons (nd _ _ n3 (by decide)) a3 b3 q3 fun _ => ?_
    have := eqF_cons (nd _ _ n4 (by decide)) a4 b4 q4 (fun _ => eqF_nil)
    rw [Bool.and_true] at this
    exact this
theorem sp_same {x : SP} (hx : x.Ok) (w : World) : (Op.equalIn 10000 38 (.agg x.cells.toArray) (.agg x.cells.toArray)).run Try.prog w = .ok true w := by
  rw [sp_eq hx hx, eqS_same]
end Go.Proofs.Ytnkdbkgihemjnaa
