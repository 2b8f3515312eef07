/- Two revisions, two entries: alike? -/
import Derived.Test.YtjfkaebikmnnaaaRevDec
import Derived.Test.YtjfkaebikmnnaaaRevLog
import Derived.Test.YtjfkaebikmnnaaaKeep
namespace Go.Proofs.Ytjfkaebikmnnaaa
set_option linter.unusedSimpArgs false
set_option linter.unusedVariables false
open Go.RowKit Go.Sort

theorem bytes_q {n : Nat} {x y : List UInt8} (hx : x.length = 32) (hy : y.length = 32) (w : World) : (Op.equalIn (n + 2) 41 (.agg (bvs x).toArray) (.agg (bvs y).toArray)).run Try.prog w = .ok (x == y) w :=
  run_equalIn_bytes (P := Try.prog) w n 41 5 32 Try.underlying41 Try.underlying5 u8_sizeOf' x y hx hy
theorem ext_of {l : List Value} {o m : Nat} {v : List Value} (h : (l.drop o).take m = v) : l.toArray.extract o (o + m) = v.toArray := by rw [← h]; simp
/-- entries -/
def eqE (x y : LE) : Bool := (x.num == y.num) && (x.key == y.key)
theorem eqE_iff {x y : LE} : eqE x y = true ↔ x = y := by
  obtain ⟨a, b⟩ := x
  obtain ⟨a', b'⟩ := y
  simp [eqE]
theorem le_eq {x y : LE} (hx : x.Ok) (hy : y.Ok) (w : World) : (Op.equalIn 10000 66 (.agg x.cells.toArray) (.agg y.cells.toArray)).run Try.prog w = .ok (eqE x y) w := by
  have hf : ∃ fs, Try.prog.underlying 66 = some (.struct fs) ∧ (fs.toList.map fun f => (f.name, f.type, f.offset)) = [("Number", 3, 0), ("Key", 41, 1)] := ⟨_, Try.underlying66, by kernel_rfl⟩
  obtain ⟨fs, hu, hl⟩ := hf
  have hfo : Try.prog.fieldsOf 66 = fs := by unfold Program.fieldsOf; rw [hu]
  rw [run_equalIn_struct w 9999 _ _ _ (by rw [hfo]; exact hu) (by kernel_rfl), hfo]
  have hlen : fs.toList.length = 2 := by have := congrArg List.length hl; simpa using this
  have kx : (x.cells.drop 1).take 32 = bvs x.key := by show (bvs x.key).take 32 = _; rw [List.take_of_length_le (by rw [bvs_len, hx.key]; omega)]
  have ky : (y.cells.drop 1).take 32 = bvs y.key := by show (bvs y.key).take 32 = _; rw [List.take_of_length_le (by rw [bvs_len, hy.key]; omega)]
  match fs.toList, hlen, hl with
  | [f0, f1], _, hl =>
    simp only [List.map_cons, List.map_nil, List.cons.injEq, Prod.mk.injEq, and_true] at hl
    obtain ⟨⟨n0, t0, o0⟩, ⟨n1, t1, o1⟩⟩ := hl
    have a0 := part_int (P := Try.prog) Try.underlying3 (cs := x.cells.toArray) (o := 0) (v := .int .i64 x.num) rfl w
    have b0 := part_int (P := Try.prog) Try.underlying3 (cs := y.cells.toArray) (o := 0) (v := .int .i64 y.num) rfl w
    have a1 := part_arr (P := Try.prog) Try.underlying41 (m := 32) (by kernel_rfl) x.cells.toArray 1 w
    have b1 := part_arr (P := Try.prog) Try.underlying41 (m := 32) (by kernel_rfl) y.cells.toArray 1 w
    rw [ext_of kx] at a1
    rw [ext_of ky] at b1
    have q0 : (Op.equalIn 9999 3 (.int .i64 x.num) (.int .i64 y.num)).run Try.prog w = .ok (x.num == y.num) w := run_equalIn_int w 9998 _ .i64 .i64 _ _ Try.underlying3
    have q1 := bytes_q (n := 9997) hx.key hy.key w
    rw [← t0, ← o0] at a0 b0
    rw [← t1, ← o1] at a1 b1
    rw [← t0] at q0
    rw [← t1] at q1
    unfold eqE
    refine eqF_cons (nd_name _ _ n0 (by decide)) a0 b0 q0 fun _ => ?_
    have := eqF_cons (nd_name _ _ n1 (by decide)) a1 b1 q1 (fun _ => eqF_nil)
    rw [Bool.and_true] at this
    exact this
/-- revisions -/
def eqV (x y : RV) : Bool := (x.num == y.num) && ((x.par == y.par) && ((x.src == y.src) && ((x.sty == y.sty) && ((x.tre == y.tre) && (x.pag == y.pag)))))
theorem eqV_iff {x y : RV} : eqV x y = true ↔ x = y := by
  obtain ⟨a, b, c, d, e, f⟩ := x
  obtain ⟨a', b', c', d', e', f'⟩ := y
  simp [eqV]
theorem rv_eq {x y : RV} (hx : x.Ok) (hy : y.Ok) (w : World) : (Op.equalIn 10000 43 (.agg x.cells.toArray) (.agg y.cells.toArray)).run Try.prog w = .ok (eqV x y) w := by
  have hf : ∃ fs, Try.prog.underlying 43 = some (.struct fs) ∧ (fs.toList.map fun f => (f.name, f.type, f.offset)) = [("Number", 3, 0), ("Parent", 3, 1), ("Source", 41, 2), ("Style", 41, 34), ("Tree", 41, 66), ("Pages", 3, 98)] := ⟨_, Try.underlying43, by kernel_rfl⟩
  obtain ⟨fs, hu, hl⟩ := hf
  have hfo : Try.prog.fieldsOf 43 = fs := by unfold Program.fieldsOf; rw [hu]
  rw [run_equalIn_struct w 9999 _ _ _ (by rw [hfo]; exact hu) (by kernel_rfl), hfo]
  have hlen : fs.toList.length = 6 := by have := congrArg List.length hl; simpa using this
  obtain ⟨x1, x2, x3, x4⟩ := rv_parts hx
  obtain ⟨y1, y2, y3, y4⟩ := rv_parts hy
  match fs.toList, hlen, hl with
  | [f0, f1, f2, f3, f4, f5], _, hl =>
    simp only [List.map_cons, List.map_nil, List.cons.injEq, Prod.mk.injEq, and_true] at hl
    obtain ⟨⟨n0, t0, o0⟩, ⟨n1, t1, o1⟩, ⟨n2, t2, o2⟩, ⟨n3, t3, o3⟩, ⟨n4, t4, o4⟩, ⟨n5, t5, o5⟩⟩ := hl
    have a0 := part_int (P := Try.prog) Try.underlying3 (cs := x.cells.toArray) (o := 0) (v := .int .i64 x.num) rfl w
    have b0 := part_int (P := Try.prog) Try.underlying3 (cs := y.cells.toArray) (o := 0) (v := .int .i64 y.num) rfl w
    have a1 := part_int (P := Try.prog) Try.underlying3 (cs := x.cells.toArray) (o := 1) (v := .int .i64 x.par) rfl w
    have b1 := part_int (P := Try.prog) Try.underlying3 (cs := y.cells.toArray) (o := 1) (v := .int .i64 y.par) rfl w
    have a5 := part_int (P := Try.prog) Try.underlying3 (cs := x.cells.toArray) (o := 98) (v := .int .i64 x.pag) (by rw [List.getElem?_toArray]; exact x4) w
    have b5 := part_int (P := Try.prog) Try.underlying3 (cs := y.cells.toArray) (o := 98) (v := .int .i64 y.pag) (by rw [List.getElem?_toArray]; exact y4) w
    have a2 := part_arr (P := Try.prog) Try.underlying41 (m := 32) (by kernel_rfl) x.cells.toArray 2 w
    have b2 := part_arr (P := Try.prog) Try.underlying41 (m := 32) (by kernel_rfl) y.cells.toArray 2 w
    have a3 := part_arr (P := Try.prog) Try.underlying41 (m := 32) (by kernel_rfl) x.cells.toArray 34 w
    have b3 := part_arr (P := Try.prog) Try.underlying41 (m := 32) (by kernel_rfl) y.cells.toArray 34 w
    have a4 := part_arr (P := Try.prog) Try.underlying41 (m := 32) (by kernel_rfl) x.cells.toArray 66 w
    have b4 := part_arr (P := Try.prog) Try.underlying41 (m := 32) (by kernel_rfl) y.cells.toArray 66 w
    rw [ext_of x1] at a2
    rw [ext_of y1] at b2
    rw [ext_of x2] at a3
    rw [ext_of y2] at b3
    rw [ext_of x3] at a4
    rw [ext_of y3] at b4
    have q0 : (Op.equalIn 9999 3 (.int .i64 x.num) (.int .i64 y.num)).run Try.prog w = .ok (x.num == y.num) w := run_equalIn_int w 9998 _ .i64 .i64 _ _ Try.underlying3
    have q1 : (Op.equalIn 9999 3 (.int .i64 x.par) (.int .i64 y.par)).run Try.prog w = .ok (x.par == y.par) w := run_equalIn_int w 9998 _ .i64 .i64 _ _ Try.underlying3
    have q5 : (Op.equalIn 9999 3 (.int .i64 x.pag) (.int .i64 y.pag)).run Try.prog w = .ok (x.pag == y.pag) w := run_equalIn_int w 9998 _ .i64 .i64 _ _ Try.underlying3
    have q2 := bytes_q (n := 9997) hx.src hy.src w
    have q3 := bytes_q (n := 9997) hx.sty hy.sty w
    have q4 := bytes_q (n := 9997) hx.tre hy.tre w
    rw [← t0, ← o0] at a0 b0
    rw [← t1, ← o1] at a1 b1
    rw [← t2, ← o2] at a2 b2
    rw [← t3, ← o3] at a3 b3
    rw [← t4, ← o4] at a4 b4
    rw [← t5, ← o5] at a5 b5
    rw [← t0] at q0
    rw [← t1] at q1
    rw [← t2] at q2
    rw [← t3] at q3
    rw [← t4] at q4
    rw [← t5] at q5
    unfold eqV
    refine eqF_cons (nd_name _ _ n0 (by decide)) a0 b0 q0 fun _ => eqF_cons (nd_name _ _ n1 (by decide)) a1 b1 q1 fun _ => eqF_cons (nd_name _ _ n2 (by decide)) a2 b2 q2 fun _ => eqF_cons (nd_name _ _ n3 (by decide)) a3 b3 q3 fun _ => eqF_cons (nd_name _ _ n4 (by decide)) a4 b4 q4 fun _ => ?_
    have := eqF_cons (nd_name _ _ n5 (by decide)) a5 b5 q5 (fun _ => eqF_nil)
    rw [Bool.and_true] at this
    exact this
end Go.Proofs.Ytjfkaebikmnnaaa
