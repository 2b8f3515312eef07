/- The statements of layer 17: what comes in; BreaksLines. -/
import Derived.Test.YtnojikbecohhfaaBkLines
namespace Go.Proofs.Ytnojikbecohhfaa
set_option linter.unusedSimpArgs false
set_option linter.unusedVariables false
open Go.RowKit Go.ChangeShapes Go.WideShapes Go.Sort

section
variable {H : Type} {enc : TypeId × Value → H} {P : Program} {w : World} {base : Nat}
/-- a struct of integers of one kind, by value -/
theorem open_nums {k : IntKind} {n : Nat} {t : TypeId} {fs : Array Field} {v : Value} {d : DataW H} {p : List MemPlace} (ht : P.underlying t = some (.struct fs)) (hC : P.cellsOf t = n)
    (hf : ∀ i, i < n → ∃ f, fs[i]? = some f ∧ f.offset = i ∧ P.underlying f.type = some (.int k) ∧ P.cellsOf f.type = 1)
    (hv : Value.okWide P w .any base t v) (h : DataW.Trod enc P w 0 (fun _ => true) true t v d p) : ∃ l : List Int, l.length = n ∧ v = .agg (l.map (Value.int k)).toArray ∧ ∀ x ∈ l, (Lit.int k x).wf = true := by
  obtain ⟨cs, rfl, hs⟩ := okWide_struct ht hv
  obtain ⟨fuel, hfu⟩ := h
  obtain ⟨xs, m, _, _, hlen, hxl, hx⟩ := DataW.trod_struct ht hfu
  simp only [Value.cells] at hlen hx
  obtain ⟨l, hl, hq⟩ := list_choose (q := fun i z => (cs.toList.drop (i * 1)).take 1 = [Value.int k z] ∧ (Lit.int k z).wf = true) n (fun i hi => by
    obtain ⟨f, h1, h2, h3, h4⟩ := hf i hi
    have := hx i f h1
    have hi' : i < xs.length := by rw [hxl]; exact (Array.getElem?_eq_some_iff.1 h1).1
    rw [h2, h4, List.getElem?_eq_getElem hi'] at this
    obtain ⟨z, hz, hw⟩ := dec_int h3 _ _ _ this
    exact ⟨z, by rw [Nat.mul_one]; exact hz, hw⟩)
  refine ⟨l, hl, ?_, fun x hx => ?_⟩
  · have := parts_flatMap (fun z => [Value.int k z]) 1 l cs.toList (by rw [hlen, hC, hl]; omega) (fun i x hi => (hq i x hi).1)
    rw [map_flat] at this
    rw [← this]
  · obtain ⟨i, hi, rfl⟩ := List.getElem_of_mem hx
    exact (hq i _ (List.getElem?_eq_getElem hi)).2
end
theorem five {α : Type} {l : List α} (h : l.length = 5) : ∃ a b c d e, l = [a, b, c, d, e] := by
  match l, h with
  | [a, b, c, d, e], _ => exact ⟨a, b, c, d, e, rfl⟩
theorem open_style {H : Type} {enc : TypeId × Value → H} {W : World} {base : Nat} {v : Value} {d : DataW H} {p : List MemPlace}
    (k : Value.okWide Try.prog W .any base 24 v) (h : DataW.Trod enc Try.prog W 0 (fun _ => true) true 24 v d p) :
    ∃ a b c d e : Int, v = .agg #[.int .i64 a, .int .i64 b, .int .i64 c, .int .i64 d, .int .i64 e] ∧ ∀ x ∈ [a, b, c, d, e], (Lit.int .i64 x).wf = true := by
  obtain ⟨l, hl, rfl, hw⟩ := open_nums (k := .i64) (n := 5) Try.underlying24 (by kernel_rfl) (fun i hi => by
    match i, hi with
    | 0, _ | 1, _ | 2, _ | 3, _ | 4, _ => exact ⟨_, rfl, rfl, Try.underlying3, by kernel_rfl⟩) k h
  obtain ⟨a, b, c, d, e, rfl⟩ := five hl
  exact ⟨a, b, c, d, e, rfl, hw⟩
set_option maxRecDepth 100000 in
theorem open_items {H : Type} {enc : TypeId × Value → H} {W : World} {base : Nat} {v : Value} {d : DataW H} {p : List MemPlace}
    (k : Value.okWide Try.prog W .any base 22 v) (h : DataW.Trod enc Try.prog W 0 (fun _ => true) true 22 v d p) :
    ∃ A n c, ∃ l : List It, v = .slice A n c ∧ l.length = n ∧ n ≤ c ∧ c ≤ maxLen ∧ (A = none → c = 0) ∧ Sl W W.heap.size 6 A n (encs l) := by
  obtain ⟨A, n, c, l, h1, h2, h3, h4, h5, h6, -⟩ := open_slA (encA := It.enc) (ok := fun a : It => -9223372036854775808 ≤ a.kind ∧ a.kind ≤ 9223372036854775807 ∧ a.text.size ≤ maxLen) Try.underlying22 (sz := 6) (by kernel_rfl) (by omega) It.enc_len
    (fun fuel cs x hx => dec_item Try.underlying53 (by kernel_rfl) (fun i hi => by
      match i, hi with
      | 0, _ | 1, _ | 2, _ | 3, _ | 4, _ => exact ⟨_, rfl, rfl, Try.underlying3, by kernel_rfl⟩) ⟨_, rfl, rfl, Try.underlying9, by kernel_rfl⟩ fuel cs x hx) k h
  exact ⟨A, n, c, l, h1, h2, h3, h4, h5, h6⟩

theorem breaksLines_walk {H : Type} {enc : TypeId × Value → H} {W : World} {base : Nat} {v0 v1 : Value} {d0 d1 : DataW H} {p0 p1 : List MemPlace}
    (k0 : Value.okWide Try.prog W .any base 22 v0) (h0 : DataW.Trod enc Try.prog W 0 (fun _ => true) true 22 v0 d0 p0)
    (k1 : Value.okWide Try.prog W .any base 24 v1) (h1 : DataW.Trod enc Try.prog W 0 (fun _ => true) true 24 v1 d1 p1)
    : Calls Try.prog 5 #[v0, v1] W fun e W' => e = .returned (.bool true) ∧ Below W.heap.size W W' := by
  obtain ⟨A, n, c, l, rfl, hl, hn, hc, -, hsl⟩ := open_items k0 h0
  obtain ⟨sw, sh, st, sc, si, rfl, -⟩ := open_style k1 h1
  exact breaksLines_core (by omega) sw sh st sc si hsl
end Go.Proofs.Ytnojikbecohhfaa
