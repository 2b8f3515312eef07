/- Digests as arguments; a node there and back. -/
import Derived.Test.YtcnbonmpocddmaaTrWakes
namespace Go.Proofs.Ytcnbonmpocddmaa
set_option linter.unusedSimpArgs false
set_option linter.unusedVariables false
open Go.RowKit Go.ChangeShapes Go.WideShapes Go.Sort Go.Deep

section
variable {H : Type} {enc : TypeId × Value → H} {w : World}
/-- an array's cells, each part read by 'dec' -/
theorem dec_arr {P : Program} {α : Type} {encA : α → List Value} {ok : α → Prop} {sz n : Nat} {t e : TypeId} (ht : P.underlying t = some (.array n e)) (he : P.cellsOf e = sz) (hC : P.cellsOf t = n * sz)
    (hdec : ∀ fuel cs x, DataW.trod enc P w 0 (fun _ => true) true fuel e cs = some x → ∃ a, cs = encA a ∧ ok a) (fuel : Nat) (cs : List Value) (x : DataW H × List MemPlace) (h : DataW.trod enc P w 0 (fun _ => true) true fuel t cs = some x) :
    ∃ l : List α, l.length = n ∧ cs = l.flatMap encA ∧ ∀ x ∈ l, ok x := by
  obtain ⟨xs, m, _, _, hlen, hxl, hx⟩ := DataW.trod_array ht h
  obtain ⟨l, hl, hq⟩ := list_choose (q := fun i a => (cs.drop (i * sz)).take sz = encA a ∧ ok a) n (fun i hi => by
    have := hx i hi
    rw [he, List.getElem?_eq_getElem (by omega)] at this
    exact hdec _ _ _ this)
  refine ⟨l, hl, parts_flatMap encA sz l cs (by rw [hlen, hC, hl]) (fun i x hi => (hq i x hi).1), fun x hx => ?_⟩
  obtain ⟨i, hi, rfl⟩ := List.getElem_of_mem hx
  exact (hq i _ (List.getElem?_eq_getElem hi)).2
theorem dec_bytesA {P : Program} {n : Nat} {t e : TypeId} (ht : P.underlying t = some (.array n e)) (hei : P.underlying e = some (.int .u8)) (he : P.cellsOf e = 1) (hC : P.cellsOf t = n) (fuel : Nat) (cs : List Value) (x : DataW H × List MemPlace)
    (h : DataW.trod enc P w 0 (fun _ => true) true fuel t cs = some x) : ∃ l : List UInt8, l.length = n ∧ cs = bvs l := by
  obtain ⟨l, h1, h2, -⟩ := dec_arr (encA := fun b : UInt8 => [bv b]) (ok := fun _ => True) ht he (by rw [hC, Nat.mul_one]) (dec_byte hei) fuel cs x h
  exact ⟨l, h1, by rw [h2, map_flat bv, bvs]⟩
end
set_option maxRecDepth 100000 in
theorem open_digests {H : Type} {enc : TypeId × Value → H} {W : World} {base : Nat} {v : Value} {d : DataW H} {p : List MemPlace}
    (hv : Value.okWide Try.prog W .any base 22 v) (h : DataW.Trod enc Try.prog W 0 (fun _ => true) true 22 v d p) : ∃ A n c l, v = .slice A n c ∧ DgAt W W.heap.size A n c l := by
  obtain ⟨A, n, c, l, h1, h2, h3, h4, h5, h6, h7⟩ := open_slA (encA := fun x : { r : List UInt8 // r.length = 32 } => bvs x.1) (ok := fun _ => True) (sz := 32) Try.underlying22 (by kernel_rfl) (by omega) (fun x => by rw [bvs_len]; exact x.2)
    (fun fuel cs x h => by obtain ⟨r, hr, ho⟩ := dec_bytesA (n := 32) Try.underlying40 Try.underlying5 (by kernel_rfl) (by kernel_rfl) fuel cs x h; exact ⟨⟨r, hr⟩, ho, trivial⟩) hv h
  refine ⟨A, n, c, l.map (·.1), h1, ⟨fun x hx => ?_, by rw [List.length_map, h2], ?_, h3⟩⟩
  · obtain ⟨y, -, rfl⟩ := List.mem_map.1 hx; exact y.2
  · unfold dgs; rw [List.flatMap_map]; exact h6

/-! ### a node there and back -/
theorem flat_len {l : List (List UInt8)} (h : ∀ x ∈ l, x.length = 32) : l.flatten.length = l.length * 32 := by
  induction l with
  | nil => rfl
  | cons x l ih => rw [List.flatten_cons, List.length_append, ih (fun y hy => h y (List.mem_cons_of_mem _ hy)), h x List.mem_cons_self, List.length_cons]; omega
theorem flat_part {l : List (List UInt8)} (h : ∀ x ∈ l, x.length = 32) {k : Nat} {x : List UInt8} (hx : l[k]? = some x) : (l.flatten.drop (k * 32)).take 32 = x := by
  induction l generalizing k with
  | nil => simp at hx
  | cons y l ih =>
    have hy := h y List.mem_cons_self
    match k with
    | 0 => simp at hx; subst hx; rw [Nat.zero_mul, List.drop_zero, List.flatten_cons, ← hy, List.take_left]
    | k + 1 =>
      rw [List.flatten_cons, Nat.add_mul, Nat.one_mul, Nat.add_comm (k * 32), ← List.drop_drop, ← hy, List.drop_left, hy]
      exact ih (fun z hz => h z (List.mem_cons_of_mem _ hz)) (by simpa using hx)
theorem node_dec {lv : Nat} {p : List (List UInt8)} (hlv : lv ≤ 9) (hp : p.length ≤ 3) (hw : ∀ x ∈ p, x.length = 32) : tOk (nodeB lv p) = true ∧ tLv (nodeB lv p) = lv ∧ tKids (nodeB lv p) = p ∧ tEr (nodeB lv p) = 0 := by
  have h0 : (b0 (nodeB lv p)).toNat = lv := by show (UInt8.ofNat lv).toNat = lv; rw [UInt8.toNat_ofNat']; omega
  have h1 : (b1 (nodeB lv p)).toNat = p.length := by show (UInt8.ofNat p.length).toNat = _; rw [UInt8.toNat_ofNat']; omega
  have hl := enc_len (lv := lv) hw
  have hok : tOk (nodeB lv p) = true := by unfold tOk; rw [h0, h1]; exact decide_eq_true ⟨by omega, hlv, hp, by omega⟩
  refine ⟨hok, by unfold tLv; rw [if_pos hok, h0], ?_, by unfold tEr; rw [if_pos hok]⟩
  unfold tKids
  rw [if_pos hok, h1]
  apply List.ext_getElem?
  intro i
  unfold kidsK
  rw [List.getElem?_map]
  rcases Nat.lt_or_ge i p.length with h | h
  · rw [List.getElem?_eq_getElem (by simpa using h), List.getElem?_eq_getElem h]
    simp only [List.getElem_range, Option.map_some]
    congr 1
    unfold kidAt
    exact flat_part hw (List.getElem?_eq_getElem h)
  · rw [List.getElem?_eq_none (by simpa using h), List.getElem?_eq_none h]; rfl
theorem parts3_pos : ∀ (q : Nat) (l : List (List UInt8)), 0 < l.length → ∀ p ∈ parts3 q l, 0 < p.length
  | 0, l, _, p, h => by cases h
  | q + 1, l, h0, p, h => by
    rw [parts3] at h
    split at h
    · have : p = l := by simpa using h
      subst this; exact h0
    · rcases List.mem_cons.1 h with rfl | h
      · rw [List.length_take]; omega
      · exact parts3_pos q _ (by rw [List.length_drop]; omega) p h
/-- what stands in a level -/
theorem nodesT_mem {lv : Nat} {l : List (List UInt8)} (h : ∀ x ∈ l, x.length = 32) {y : List UInt8} (hy : y ∈ nodesT lv l) : ∃ p, y = nodeB lv p ∧ p.length ≤ 3 ∧ (∀ x ∈ p, x.length = 32) ∧ (0 < l.length → 0 < p.length) := by
  unfold nodesT at hy
  obtain ⟨p, hp, rfl⟩ := List.mem_map.1 hy
  obtain ⟨h1, h2⟩ := parts3_small _ _ p hp
  exact ⟨p, rfl, h1, fun x hx => h x (h2 x hx), fun h0 => parts3_pos _ _ h0 p hp⟩
end Go.Proofs.Ytcnbonmpocddmaa
