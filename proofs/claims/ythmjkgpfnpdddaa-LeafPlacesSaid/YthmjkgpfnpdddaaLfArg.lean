/- Entries, places and blocks as arguments. -/
import Derived.Test.YthmjkgpfnpdddaaLfKeep
namespace Go.Proofs.Ythmjkgpfnpdddaa
set_option linter.unusedSimpArgs false
set_option linter.unusedVariables false
open Go.RowKit Go.ChangeShapes Go.WideShapes Go.Sort Go.Deep

section
variable {H : Type} {enc : TypeId × Value → H} {w : World}
/-- an array's cells, each part read by 'dec' -/
theorem dec_arr {P : Program} {α : Type} {encA : α → List Value} {ok : α → Prop} {sz n : Nat} {t e : TypeId} (ht : P.underlying t = some (.array n e)) (he : P.cellsOf e = sz) (hC : P.cellsOf t = n * sz)
    (hdec : ∀ fuel cs x, DataW.trod enc P w 0 (fun _ => true) true fuel e cs = some x → ∃ a, cs = encA a ∧ ok a) (fuel : Nat) (cs : List Value) (x : DataW H × List MemPlace) (h : DataW.trod enc P w 0 (fun _ => true) true fuel t cs = some x) :
    ∃ l : List α, l.length = n ∧ cs = l.flatMap encA ∧ ∀ x ∈ l, ok x := by
  obtain ⟨xs, m, _, _, hlen, hxl, hx⟩ := DataW.trod_array ht h
  obtain ⟨l, hl, hq⟩ := list_choose (q := fun i a => (cs.drop (i * sz)).take sz = encA a ∧ ok a) n (fun i hi => by
    have := hx i hi
    rw [he, List.getElem?_eq_getElem (by omega)] at this
    exact hdec _ _ _ this)
  refine ⟨l, hl, parts_flatMap encA sz l cs (by rw [hlen, hC, hl]) (fun i x hi => (hq i x hi).1), fun x hx => ?_⟩
  obtain ⟨i, hi, rfl⟩ := List.getElem_of_mem hx
  exact (hq i _ (List.getElem?_eq_getElem hi)).2
theorem dec_bytesA {P : Program} {n : Nat} {t e : TypeId} (ht : P.underlying t = some (.array n e)) (hei : P.underlying e = some (.int .u8)) (he : P.cellsOf e = 1) (hC : P.cellsOf t = n) (fuel : Nat) (cs : List Value) (x : DataW H × List MemPlace)
    (h : DataW.trod enc P w 0 (fun _ => true) true fuel t cs = some x) : ∃ l : List UInt8, l.length = n ∧ cs = bvs l := by
  obtain ⟨l, h1, h2, -⟩ := dec_arr (encA := fun b : UInt8 => [bv b]) (ok := fun _ => True) ht he (by rw [hC, Nat.mul_one]) (dec_byte hei) fuel cs x h
  exact ⟨l, h1, by rw [h2, map_flat bv, bvs]⟩
set_option maxRecDepth 100000 in
theorem dec_en (fuel : Nat) (cs : List Value) (x : DataW H × List MemPlace) (h : DataW.trod enc Try.prog w 0 (fun _ => true) true fuel 73 cs = some x) : ∃ r : EN, cs = r.cells ∧ r.Ok := by
  have hC : Try.prog.cellsOf 73 = 35 := by kernel_rfl
  obtain ⟨fs, ht, hf⟩ : ∃ fs, Try.prog.underlying 73 = some (.struct fs) ∧
      (∃ f, fs[0]? = some f ∧ f.offset = 0 ∧ f.type = 71) ∧ (∃ f, fs[1]? = some f ∧ f.offset = 32 ∧ f.type = 3) ∧ (∃ f, fs[2]? = some f ∧ f.offset = 33 ∧ f.type = 3) ∧ (∃ f, fs[3]? = some f ∧ f.offset = 34 ∧ f.type = 3) :=
    ⟨_, Try.underlying73, ⟨_, rfl, rfl, rfl⟩, ⟨_, rfl, rfl, rfl⟩, ⟨_, rfl, rfl, rfl⟩, ⟨_, rfl, rfl, rfl⟩⟩
  obtain ⟨⟨f0, a0, b0, t0⟩, ⟨f1, a1, b1, t1⟩, ⟨f2, a2, b2, t2⟩, ⟨f3, a3, b3, t3⟩⟩ := hf
  obtain ⟨xs, m, _, _, hlen, hxl, hx⟩ := DataW.trod_struct ht h
  have c1 : Try.prog.cellsOf 3 = 1 := by kernel_rfl
  have c3 : Try.prog.cellsOf 71 = 32 := by kernel_rfl
  have c5 : Try.prog.cellsOf 5 = 1 := by kernel_rfl
  have h0 := hx 0 f0 a0
  have h1 := hx 1 f1 a1
  have h2 := hx 2 f2 a2
  have h3 := hx 3 f3 a3
  rw [b0, t0, c3, List.getElem?_eq_getElem (by rw [hxl]; exact (Array.getElem?_eq_some_iff.1 a0).1)] at h0
  rw [b1, t1, c1, List.getElem?_eq_getElem (by rw [hxl]; exact (Array.getElem?_eq_some_iff.1 a1).1)] at h1
  rw [b2, t2, c1, List.getElem?_eq_getElem (by rw [hxl]; exact (Array.getElem?_eq_some_iff.1 a2).1)] at h2
  rw [b3, t3, c1, List.getElem?_eq_getElem (by rw [hxl]; exact (Array.getElem?_eq_some_iff.1 a3).1)] at h3
  obtain ⟨l0, n0, e0⟩ := dec_bytesA Try.underlying71 Try.underlying5 c5 c3 _ _ _ h0
  obtain ⟨z1, e1, w1⟩ := dec_int Try.underlying3 _ _ _ h1
  obtain ⟨z2, e2, w2⟩ := dec_int Try.underlying3 _ _ _ h2
  obtain ⟨z3, e3, w3⟩ := dec_int Try.underlying3 _ _ _ h3
  rw [hC] at hlen
  refine ⟨⟨l0, z1, z2, z3⟩, ?_, ⟨n0, wf64 w1, wf64 w2, wf64 w3⟩⟩
  show cs = bvs l0 ++ ([.int .i64 z1] ++ ([.int .i64 z2] ++ [.int .i64 z3]))
  rw [List.drop_zero] at e0
  have s1 : cs = cs.take 32 ++ cs.drop 32 := (List.take_append_drop 32 cs).symm
  have s2 : cs.drop 32 = (cs.drop 32).take 1 ++ cs.drop 33 := by rw [show (33 : Nat) = 32 + 1 from rfl, ← List.drop_drop, List.take_append_drop]
  have s3 : cs.drop 33 = (cs.drop 33).take 1 ++ cs.drop 34 := by rw [show (34 : Nat) = 33 + 1 from rfl, ← List.drop_drop, List.take_append_drop]
  rw [List.take_of_length_le (by rw [List.length_drop]; omega)] at e3
  rw [← e0, ← e1, ← e2, ← e3, ← s3, ← s2, ← s1]
end
set_option maxRecDepth 100000 in
theorem open_entries {H : Type} {enc : TypeId × Value → H} {W : World} {base : Nat} {v : Value} {d : DataW H} {p : List MemPlace}
    (hv : Value.okWide Try.prog W .any base 49 v) (h : DataW.Trod enc Try.prog W 0 (fun _ => true) true 49 v d p) : ∃ A n c l, v = .slice A n c ∧ LfAt W W.heap.size A n c l ∧ c ≤ maxLen := by
  obtain ⟨A, n, c, l, h1, h2, h3, h4, h5, h6, h7⟩ := open_slA (encA := fun x : { r : EN // r.Ok } => x.1.cells) (ok := fun _ => True) (sz := 35) Try.underlying49 (by kernel_rfl) (by omega) (fun x => x.2.len)
    (fun fuel cs x h => by obtain ⟨r, hr, ho⟩ := dec_en fuel cs x h; exact ⟨⟨r, ho⟩, hr, trivial⟩) hv h
  refine ⟨A, n, c, l.map (·.1), h1, ⟨fun x hx => ?_, by rw [List.length_map, h2], ?_, h3⟩, h4⟩
  · obtain ⟨y, -, rfl⟩ := List.mem_map.1 hx; exact y.2
  · unfold ens; rw [List.flatMap_map]; exact h6
set_option maxRecDepth 100000 in
theorem open_places {H : Type} {enc : TypeId × Value → H} {W : World} {base : Nat} {v : Value} {d : DataW H} {p : List MemPlace}
    (hv : Value.okWide Try.prog W .any base 50 v) (h : DataW.Trod enc Try.prog W 0 (fun _ => true) true 50 v d p) : ∃ A n c l, v = .slice A n c ∧ IvAt W W.heap.size A n c l ∧ c ≤ maxLen := by
  obtain ⟨A, n, c, l, h1, h2, h3, h4, h5, h6, h7⟩ := open_ints_sl Try.underlying50 Try.underlying3 (by kernel_rfl) hv h
  exact ⟨A, n, c, l, h1, ⟨fun x hx => wf64 (h7 x hx), h2, h6, h3⟩, h4⟩
set_option maxRecDepth 100000 in
theorem open_blk {H : Type} {enc : TypeId × Value → H} {W : World} {base : Nat} {v : Value} {d : DataW H} {p : List MemPlace}
    (hv : Value.okWide Try.prog W .any base 40 v) (h : DataW.Trod enc Try.prog W 0 (fun _ => true) true 40 v d p) : ∃ b : Blk, v = bkv b ∧ b.length = 128 := by
  obtain ⟨b, hb, rfl⟩ := open_bytes_arr Try.underlying40 Try.underlying5 (by kernel_rfl) (by kernel_rfl) hv h
  exact ⟨b, rfl, hb⟩
end Go.Proofs.Ythmjkgpfnpdddaa
