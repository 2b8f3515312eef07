/- Superblocks as arguments. -/
import Derived.Test.YtnkdbkgihemjnaaSupWakes
namespace Go.Proofs.Ytnkdbkgihemjnaa
set_option linter.unusedSimpArgs false
set_option linter.unusedVariables false
open Go.RowKit Go.ChangeShapes Go.WideShapes Go.Sort Go.Deep

section
variable {H : Type} {enc : TypeId × Value → H} {w : World}
/-- an array's cells, each part read by 'dec' -/
theorem dec_arr {P : Program} {α : Type} {encA : α → List Value} {ok : α → Prop} {sz n : Nat} {t e : TypeId} (ht : P.underlying t = some (.array n e)) (he : P.cellsOf e = sz) (hC : P.cellsOf t = n * sz)
    (hdec : ∀ fuel cs x, DataW.trod enc P w 0 (fun _ => true) true fuel e cs = some x → ∃ a, cs = encA a ∧ ok a) (fuel : Nat) (cs : List Value) (x : DataW H × List MemPlace) (h : DataW.trod enc P w 0 (fun _ => true) true fuel t cs = some x) :
    ∃ l : List α, l.length = n ∧ cs = l.flatMap encA ∧ ∀ x ∈ l, ok x := by
  obtain ⟨xs, m, _, _, hlen, hxl, hx⟩ := DataW.trod_array ht h
  obtain ⟨l, hl, hq⟩ := list_choose (q := fun i a => (cs.drop (i * sz)).take sz = encA a ∧ ok a) n (fun i hi => by
    have := hx i hi
    rw [he, List.getElem?_eq_getElem (by omega)] at this
    exact hdec _ _ _ this)
  refine ⟨l, hl, parts_flatMap encA sz l cs (by rw [hlen, hC, hl]) (fun i x hi => (hq i x hi).1), fun x hx => ?_⟩
  obtain ⟨i, hi, rfl⟩ := List.getElem_of_mem hx
  exact (hq i _ (List.getElem?_eq_getElem hi)).2
theorem dec_bytes {P : Program} {n : Nat} {t e : TypeId} (ht : P.underlying t = some (.array n e)) (hei : P.underlying e = some (.int .u8)) (he : P.cellsOf e = 1) (hC : P.cellsOf t = n) (fuel : Nat) (cs : List Value) (x : DataW H × List MemPlace)
    (h : DataW.trod enc P w 0 (fun _ => true) true fuel t cs = some x) : ∃ l : List UInt8, l.length = n ∧ cs = bvs l := by
  obtain ⟨l, h1, h2, -⟩ := dec_arr (encA := fun b : UInt8 => [bv b]) (ok := fun _ => True) ht he (by rw [hC, Nat.mul_one]) (dec_byte hei) fuel cs x h
  exact ⟨l, h1, by rw [h2, map_flat bv, bvs]⟩
set_option maxRecDepth 100000 in
theorem dec_sp (fuel : Nat) (cs : List Value) (x : DataW H × List MemPlace) (h : DataW.trod enc Try.prog w 0 (fun _ => true) true fuel 38 cs = some x) : ∃ s : SP, cs = s.cells ∧ s.Ok := by
  have hC : Try.prog.cellsOf 38 = 51 := by kernel_rfl
  obtain ⟨fs, ht, hf⟩ : ∃ fs, Try.prog.underlying 38 = some (.struct fs) ∧
      (∃ f, fs[0]? = some f ∧ f.offset = 0 ∧ f.type = 32) ∧ (∃ f, fs[1]? = some f ∧ f.offset = 1 ∧ f.type = 3) ∧ (∃ f, fs[2]? = some f ∧ f.offset = 2 ∧ f.type = 3) ∧ (∃ f, fs[3]? = some f ∧ f.offset = 3 ∧ f.type = 34) ∧ (∃ f, fs[4]? = some f ∧ f.offset = 35 ∧ f.type = 36) :=
    ⟨_, Try.underlying38, ⟨_, rfl, rfl, rfl⟩, ⟨_, rfl, rfl, rfl⟩, ⟨_, rfl, rfl, rfl⟩, ⟨_, rfl, rfl, rfl⟩, ⟨_, rfl, rfl, rfl⟩⟩
  obtain ⟨⟨f0, a0, b0, t0⟩, ⟨f1, a1, b1, t1⟩, ⟨f2, a2, b2, t2⟩, ⟨f3, a3, b3, t3⟩, ⟨f4, a4, b4, t4⟩⟩ := hf
  obtain ⟨xs, m, _, _, hlen, hxl, hx⟩ := DataW.trod_struct ht h
  have c0 : Try.prog.cellsOf 32 = 1 := by kernel_rfl
  have c1 : Try.prog.cellsOf 3 = 1 := by kernel_rfl
  have c3 : Try.prog.cellsOf 34 = 32 := by kernel_rfl
  have c4 : Try.prog.cellsOf 36 = 16 := by kernel_rfl
  have c5 : Try.prog.cellsOf 5 = 1 := by kernel_rfl
  have h0 := hx 0 f0 a0
  have h1 := hx 1 f1 a1
  have h2 := hx 2 f2 a2
  have h3 := hx 3 f3 a3
  have h4 := hx 4 f4 a4
  rw [b0, t0, c0, List.getElem?_eq_getElem (by rw [hxl]; exact (Array.getElem?_eq_some_iff.1 a0).1)] at h0
  rw [b1, t1, c1, List.getElem?_eq_getElem (by rw [hxl]; exact (Array.getElem?_eq_some_iff.1 a1).1)] at h1
  rw [b2, t2, c1, List.getElem?_eq_getElem (by rw [hxl]; exact (Array.getElem?_eq_some_iff.1 a2).1)] at h2
  rw [b3, t3, c3, List.getElem?_eq_getElem (by rw [hxl]; exact (Array.getElem?_eq_some_iff.1 a3).1)] at h3
  rw [b4, t4, c4, List.getElem?_eq_getElem (by rw [hxl]; exact (Array.getElem?_eq_some_iff.1 a4).1)] at h4
  obtain ⟨z0, e0, w0⟩ := dec_int Try.underlying32 _ _ _ h0
  obtain ⟨z1, e1, w1⟩ := dec_int Try.underlying3 _ _ _ h1
  obtain ⟨z2, e2, w2⟩ := dec_int Try.underlying3 _ _ _ h2
  obtain ⟨l3, n3, e3⟩ := dec_bytes Try.underlying34 Try.underlying5 c5 c3 _ _ _ h3
  obtain ⟨l4, n4, e4⟩ := dec_bytes Try.underlying36 Try.underlying5 c5 c4 _ _ _ h4
  rw [hC] at hlen
  have q0 := wf_u32 w0
  refine ⟨⟨z0.toNat, z1, z2, l3, l4⟩, ?_, ⟨by show z0.toNat < 4294967296; omega, wf64 w1, wf64 w2, n3, n4⟩⟩
  show cs = .int .u32 ((z0.toNat : Nat) : Int) :: .int .i64 z1 :: .int .i64 z2 :: (bvs l3 ++ bvs l4)
  rw [show ((z0.toNat : Nat) : Int) = z0 from by omega]
  match cs, hlen with
  | x0 :: x1 :: x2 :: r, hlen =>
    simp only [List.drop_zero, List.drop_succ_cons, List.take_succ_cons, List.take_zero, List.cons.injEq, and_true] at e0 e1 e2 e3 e4
    subst e0 e1 e2
    simp only [List.length_cons] at hlen
    rw [List.take_of_length_le (by rw [List.length_drop]; omega)] at e4
    rw [← e3, ← e4, List.take_append_drop]
set_option maxRecDepth 100000 in
/-- a superblock by value -/
theorem open_sp {base : Nat} {v : Value} {d : DataW H} {p : List MemPlace} (hv : Value.okWide Try.prog w .any base 38 v) (h : DataW.Trod enc Try.prog w 0 (fun _ => true) true 38 v d p) : ∃ s : SP, v = spv s ∧ s.Ok := by
  obtain ⟨cs, rfl, hs⟩ := okWide_struct Try.underlying38 hv
  obtain ⟨fuel, hf⟩ := h
  obtain ⟨s, h1, h2⟩ := dec_sp fuel _ _ hf
  refine ⟨s, ?_, h2⟩
  unfold spv
  rw [← h1]
  rfl
end
end Go.Proofs.Ytnkdbkgihemjnaa
