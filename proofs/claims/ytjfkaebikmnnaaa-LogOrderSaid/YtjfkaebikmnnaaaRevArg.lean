/- Revisions and logs as arguments. -/
import Derived.Test.YtjfkaebikmnnaaaRevLog
namespace Go.Proofs.Ytjfkaebikmnnaaa
set_option linter.unusedSimpArgs false
set_option linter.unusedVariables false
open Go.RowKit Go.ChangeShapes Go.WideShapes Go.Sort Go.Deep

section
variable {H : Type} {enc : TypeId × Value → H} {w : World}
/-- an array's cells, each part read by 'dec' -/
theorem dec_arr {P : Program} {α : Type} {encA : α → List Value} {ok : α → Prop} {sz n : Nat} {t e : TypeId} (ht : P.underlying t = some (.array n e)) (he : P.cellsOf e = sz) (hC : P.cellsOf t = n * sz)
    (hdec : ∀ fuel cs x, DataW.trod enc P w 0 (fun _ => true) true fuel e cs = some x → ∃ a, cs = encA a ∧ ok a) (fuel : Nat) (cs : List Value) (x : DataW H × List MemPlace) (h : DataW.trod enc P w 0 (fun _ => true) true fuel t cs = some x) :
    ∃ l : List α, l.length = n ∧ cs = l.flatMap encA ∧ ∀ x ∈ l, ok x := by
  obtain ⟨xs, m, _, _, hlen, hxl, hx⟩ := DataW.trod_array ht h
  obtain ⟨l, hl, hq⟩ := list_choose (q := fun i a => (cs.drop (i * sz)).take sz = encA a ∧ ok a) n (fun i hi => by
    have := hx i hi
    rw [he, List.getElem?_eq_getElem (by omega)] at this
    exact hdec _ _ _ this)
  refine ⟨l, hl, parts_flatMap encA sz l cs (by rw [hlen, hC, hl]) (fun i x hi => (hq i x hi).1), fun x hx => ?_⟩
  obtain ⟨i, hi, rfl⟩ := List.getElem_of_mem hx
  exact (hq i _ (List.getElem?_eq_getElem hi)).2
theorem dec_bytesA {P : Program} {n : Nat} {t e : TypeId} (ht : P.underlying t = some (.array n e)) (hei : P.underlying e = some (.int .u8)) (he : P.cellsOf e = 1) (hC : P.cellsOf t = n) (fuel : Nat) (cs : List Value) (x : DataW H × List MemPlace)
    (h : DataW.trod enc P w 0 (fun _ => true) true fuel t cs = some x) : ∃ l : List UInt8, l.length = n ∧ cs = bvs l := by
  obtain ⟨l, h1, h2, -⟩ := dec_arr (encA := fun b : UInt8 => [bv b]) (ok := fun _ => True) ht he (by rw [hC, Nat.mul_one]) (dec_byte hei) fuel cs x h
  exact ⟨l, h1, by rw [h2, map_flat bv, bvs]⟩

set_option maxRecDepth 100000 in
theorem dec_rv (fuel : Nat) (cs : List Value) (x : DataW H × List MemPlace) (h : DataW.trod enc Try.prog w 0 (fun _ => true) true fuel 43 cs = some x) : ∃ r : RV, cs = r.cells ∧ r.Ok := by
  have hC : Try.prog.cellsOf 43 = 99 := by kernel_rfl
  obtain ⟨fs, ht, hf⟩ : ∃ fs, Try.prog.underlying 43 = some (.struct fs) ∧
      (∃ f, fs[0]? = some f ∧ f.offset = 0 ∧ f.type = 3) ∧ (∃ f, fs[1]? = some f ∧ f.offset = 1 ∧ f.type = 3) ∧ (∃ f, fs[2]? = some f ∧ f.offset = 2 ∧ f.type = 41) ∧ (∃ f, fs[3]? = some f ∧ f.offset = 34 ∧ f.type = 41) ∧ (∃ f, fs[4]? = some f ∧ f.offset = 66 ∧ f.type = 41) ∧ (∃ f, fs[5]? = some f ∧ f.offset = 98 ∧ f.type = 3) :=
    ⟨_, Try.underlying43, ⟨_, rfl, rfl, rfl⟩, ⟨_, rfl, rfl, rfl⟩, ⟨_, rfl, rfl, rfl⟩, ⟨_, rfl, rfl, rfl⟩, ⟨_, rfl, rfl, rfl⟩, ⟨_, rfl, rfl, rfl⟩⟩
  obtain ⟨⟨f0, a0, b0, t0⟩, ⟨f1, a1, b1, t1⟩, ⟨f2, a2, b2, t2⟩, ⟨f3, a3, b3, t3⟩, ⟨f4, a4, b4, t4⟩, ⟨f5, a5, b5, t5⟩⟩ := hf
  obtain ⟨xs, m, _, _, hlen, hxl, hx⟩ := DataW.trod_struct ht h
  have c1 : Try.prog.cellsOf 3 = 1 := by kernel_rfl
  have c3 : Try.prog.cellsOf 41 = 32 := by kernel_rfl
  have c5 : Try.prog.cellsOf 5 = 1 := by kernel_rfl
  have h0 := hx 0 f0 a0
  have h1 := hx 1 f1 a1
  have h2 := hx 2 f2 a2
  have h3 := hx 3 f3 a3
  have h4 := hx 4 f4 a4
  have h5 := hx 5 f5 a5
  rw [b0, t0, c1, List.getElem?_eq_getElem (by rw [hxl]; exact (Array.getElem?_eq_some_iff.1 a0).1)] at h0
  rw [b1, t1, c1, List.getElem?_eq_getElem (by rw [hxl]; exact (Array.getElem?_eq_some_iff.1 a1).1)] at h1
  rw [b2, t2, c3, List.getElem?_eq_getElem (by rw [hxl]; exact (Array.getElem?_eq_some_iff.1 a2).1)] at h2
  rw [b3, t3, c3, List.getElem?_eq_getElem (by rw [hxl]; exact (Array.getElem?_eq_some_iff.1 a3).1)] at h3
  rw [b4, t4, c3, List.getElem?_eq_getElem (by rw [hxl]; exact (Array.getElem?_eq_some_iff.1 a4).1)] at h4
  rw [b5, t5, c1, List.getElem?_eq_getElem (by rw [hxl]; exact (Array.getElem?_eq_some_iff.1 a5).1)] at h5
  obtain ⟨z0, e0, w0⟩ := dec_int Try.underlying3 _ _ _ h0
  obtain ⟨z1, e1, w1⟩ := dec_int Try.underlying3 _ _ _ h1
  obtain ⟨l2, n2, e2⟩ := dec_bytesA Try.underlying41 Try.underlying5 c5 c3 _ _ _ h2
  obtain ⟨l3, n3, e3⟩ := dec_bytesA Try.underlying41 Try.underlying5 c5 c3 _ _ _ h3
  obtain ⟨l4, n4, e4⟩ := dec_bytesA Try.underlying41 Try.underlying5 c5 c3 _ _ _ h4
  obtain ⟨z5, e5, w5⟩ := dec_int Try.underlying3 _ _ _ h5
  rw [hC] at hlen
  refine ⟨⟨z0, z1, l2, l3, l4, z5⟩, ?_, ⟨wf64 w0, wf64 w1, n2, n3, n4, wf64 w5⟩⟩
  show cs = .int .i64 z0 :: .int .i64 z1 :: (bvs l2 ++ (bvs l3 ++ (bvs l4 ++ [.int .i64 z5])))
  match cs, hlen with
  | x0 :: x1 :: r, hlen =>
    simp only [List.drop_zero, List.drop_succ_cons, List.take_succ_cons, List.take_zero, List.cons.injEq, and_true] at e0 e1 e2 e3 e4 e5
    subst e0 e1
    simp only [List.length_cons] at hlen
    rw [List.take_of_length_le (by rw [List.length_drop]; omega)] at e5
    have s1 : r = r.take 32 ++ r.drop 32 := (List.take_append_drop 32 r).symm
    have s2 : r.drop 32 = (r.drop 32).take 32 ++ r.drop 64 := by rw [show (64 : Nat) = 32 + 32 from rfl, ← List.drop_drop, List.take_append_drop]
    have s3 : r.drop 64 = (r.drop 64).take 32 ++ r.drop 96 := by rw [show (96 : Nat) = 64 + 32 from rfl, ← List.drop_drop, List.take_append_drop]
    rw [← e2, ← e3, ← e4, ← e5, ← s3, ← s2, ← s1]
theorem open_rv {base : Nat} {v : Value} {d : DataW H} {p : List MemPlace} (hv : Value.okWide Try.prog w .any base 43 v) (h : DataW.Trod enc Try.prog w 0 (fun _ => true) true 43 v d p) : ∃ r : RV, v = rvv r ∧ r.Ok := by
  obtain ⟨cs, rfl, hs⟩ := okWide_struct Try.underlying43 hv
  obtain ⟨fuel, hf⟩ := h
  obtain ⟨r, h1, h2⟩ := dec_rv fuel _ _ hf
  refine ⟨r, ?_, h2⟩
  unfold rvv
  rw [← h1]
  rfl
set_option maxRecDepth 100000 in
theorem dec_le (fuel : Nat) (cs : List Value) (x : DataW H × List MemPlace) (h : DataW.trod enc Try.prog w 0 (fun _ => true) true fuel 66 cs = some x) : ∃ r : LE, cs = r.cells ∧ r.Ok := by
  have hC : Try.prog.cellsOf 66 = 33 := by kernel_rfl
  obtain ⟨fs, ht, hf⟩ : ∃ fs, Try.prog.underlying 66 = some (.struct fs) ∧ (∃ f, fs[0]? = some f ∧ f.offset = 0 ∧ f.type = 3) ∧ (∃ f, fs[1]? = some f ∧ f.offset = 1 ∧ f.type = 41) :=
    ⟨_, Try.underlying66, ⟨_, rfl, rfl, rfl⟩, ⟨_, rfl, rfl, rfl⟩⟩
  obtain ⟨⟨f0, a0, b0, t0⟩, ⟨f1, a1, b1, t1⟩⟩ := hf
  obtain ⟨xs, m, _, _, hlen, hxl, hx⟩ := DataW.trod_struct ht h
  have c1 : Try.prog.cellsOf 3 = 1 := by kernel_rfl
  have c3 : Try.prog.cellsOf 41 = 32 := by kernel_rfl
  have c5 : Try.prog.cellsOf 5 = 1 := by kernel_rfl
  have h0 := hx 0 f0 a0
  have h1 := hx 1 f1 a1
  rw [b0, t0, c1, List.getElem?_eq_getElem (by rw [hxl]; exact (Array.getElem?_eq_some_iff.1 a0).1)] at h0
  rw [b1, t1, c3, List.getElem?_eq_getElem (by rw [hxl]; exact (Array.getElem?_eq_some_iff.1 a1).1)] at h1
  obtain ⟨z0, e0, w0⟩ := dec_int Try.underlying3 _ _ _ h0
  obtain ⟨l1, n1, e1⟩ := dec_bytesA Try.underlying41 Try.underlying5 c5 c3 _ _ _ h1
  rw [hC] at hlen
  refine ⟨⟨z0, l1⟩, ?_, ⟨wf64 w0, n1⟩⟩
  show cs = .int .i64 z0 :: bvs l1
  match cs, hlen with
  | x0 :: r, hlen =>
    simp only [List.drop_zero, List.drop_succ_cons, List.take_succ_cons, List.take_zero, List.cons.injEq, and_true] at e0 e1
    subst e0
    simp only [List.length_cons] at hlen
    rw [List.take_of_length_le (by omega)] at e1
    rw [e1]
theorem flat_lenE {α : Type} (enc : α → List Value) (sz : Nat) {l : List α} (hs : ∀ x ∈ l, (enc x).length = sz) : (l.flatMap enc).length = l.length * sz := by
  induction l with
  | nil => simp
  | cons y l ih => rw [List.flatMap_cons, List.length_append, ih (fun x hx => hs x (by simp [hx])), hs y (by simp), List.length_cons, Nat.add_mul, Nat.one_mul, Nat.add_comm]
theorem open_slLE {fuel : Nat} {cs0 : List Value} {x0 : DataW H × List MemPlace} (h : DataW.trod enc Try.prog w 0 (fun _ => true) true fuel 44 cs0 = some x0) :
    ∃ A n c, ∃ l : List LE, cs0 = [.slice A n c] ∧ l.length = n ∧ n ≤ c ∧ c ≤ maxLen ∧ (A = none → c = 0) ∧ Sl w w.heap.size 33 A n (les l) ∧ ∀ x ∈ l, x.Ok := by
  obtain ⟨A, n, c, l, h1, h2, h3, h4, h5, h6, h7⟩ := open_sl (encA := fun x : { r : LE // r.Ok } => x.1.cells) (ok := fun _ => True) (sz := 33) Try.underlying44 (by kernel_rfl) (by omega) (fun x => x.2.len)
    (fun fuel cs x h => by obtain ⟨r, hr, ho⟩ := dec_le fuel cs x h; exact ⟨⟨r, ho⟩, hr, trivial⟩) h
  refine ⟨A, n, c, l.map (·.1), h1, by rw [List.length_map, h2], h3, h4, h5, ?_, fun x hx => ?_⟩
  · unfold les; rw [List.flatMap_map]; exact h6
  · obtain ⟨y, -, rfl⟩ := List.mem_map.1 hx; exact y.2
/-- a log by value -/
theorem open_lg {base : Nat} {v : Value} {d : DataW H} {p : List MemPlace} (hv : Value.okWide Try.prog w .any base 46 v) (h : DataW.Trod enc Try.prog w 0 (fun _ => true) true 46 v d p) :
    ∃ (next : Int) (A : Option Addr) (n c : Nat) (l : List LE), v = lgv next A n c ∧ LgAt w w.heap.size A n c l ∧ c ≤ maxLen ∧ -9223372036854775808 ≤ next ∧ next ≤ 9223372036854775807 := by
  obtain ⟨cs, rfl, hs⟩ := okWide_struct Try.underlying46 hv
  obtain ⟨fuel, hf⟩ := h
  have hC : Try.prog.cellsOf 46 = 2 := by kernel_rfl
  obtain ⟨fs, ht, hf'⟩ : ∃ fs, Try.prog.underlying 46 = some (.struct fs) ∧ (∃ f, fs[0]? = some f ∧ f.offset = 0 ∧ f.type = 3) ∧ (∃ f, fs[1]? = some f ∧ f.offset = 1 ∧ f.type = 44) :=
    ⟨_, Try.underlying46, ⟨_, rfl, rfl, rfl⟩, ⟨_, rfl, rfl, rfl⟩⟩
  obtain ⟨⟨f0, a0, b0, t0⟩, ⟨f1, a1, b1, t1⟩⟩ := hf'
  obtain ⟨xs, m, _, _, hlen, hxl, hx⟩ := DataW.trod_struct ht hf
  have c1 : Try.prog.cellsOf 3 = 1 := by kernel_rfl
  have c2 : Try.prog.cellsOf 44 = 1 := by kernel_rfl
  have h0 := hx 0 f0 a0
  have h1 := hx 1 f1 a1
  rw [b0, t0, c1, List.getElem?_eq_getElem (by rw [hxl]; exact (Array.getElem?_eq_some_iff.1 a0).1)] at h0
  rw [b1, t1, c2, List.getElem?_eq_getElem (by rw [hxl]; exact (Array.getElem?_eq_some_iff.1 a1).1)] at h1
  obtain ⟨z0, e0, w0⟩ := dec_int Try.underlying3 _ _ _ h0
  obtain ⟨A, n, c, l, e1, hl, hnc, hcm, -, hsl, hok⟩ := open_slLE h1
  rw [hC] at hlen
  simp only [Value.cells] at hlen e0 e1
  obtain ⟨l0⟩ := cs
  simp only at hlen e0 e1
  match l0, hlen with
  | [x0, x1], _ =>
    simp only [List.drop_zero, List.drop_succ_cons, List.take_succ_cons, List.take_zero, List.cons.injEq, and_true] at e0 e1
    subst e0 e1
    exact ⟨z0, A, n, c, l, rfl, ⟨hok, hl, hsl, hnc⟩, hcm, wf64 w0⟩
end
end Go.Proofs.Ytjfkaebikmnnaaa
