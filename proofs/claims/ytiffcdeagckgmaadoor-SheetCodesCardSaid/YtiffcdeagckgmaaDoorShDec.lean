/- sheet.Decode. -/
import Derived.Test.YtiffcdeagckgmaaDoorShRdLine
import Derived.Test.YtiffcdeagckgmaaDoorShGood
import Derived.Test.YtiffcdeagckgmaaDoorShOwn
namespace Go.Proofs.YtiffcdeagckgmaaDoor
set_option linter.unusedSimpArgs false
set_option linter.unusedVariables false
open Go.RowKit Go.ChangeShapes Go.WideShapes Go.Sort Go.Deep
attribute [-go_sem] Builtin.append_

/-! ### sheets alike -/
theorem RSame.flat {l m : List (LN × List PC)} {β : Type} {f : LN × List PC → List β} (hf : ∀ r s, SameR r s → f r = f s) (h : RSame l m) : l.flatMap f = m.flatMap f := by
  obtain ⟨hl, ha⟩ := h
  induction l generalizing m with
  | nil => match m, hl with | [], _ => rfl
  | cons x l ih =>
    match m, hl with
    | y :: m, hl =>
      rw [List.flatMap_cons, List.flatMap_cons, hf x y (ha 0 x y rfl rfl), ih (by simpa using hl) (fun k r s h1 h2 => ha (k + 1) r s h1 h2)]
theorem mkB_same {x y : LN} (h1 : x.kind = y.kind) (h2 : x.first = y.first) (h3 : x.last = y.last) (h4 : x.over = y.over) : mkB x = mkB y := by
  obtain ⟨a, b, c, d, e⟩ := x
  obtain ⟨a', b', c', d', e'⟩ := y
  simp only at h1 h2 h3 h4
  subst h1 h2 h3 h4
  rfl
theorem lineB_same {r s : LN × List PC} (h : SameR r s) : lineB r = lineB s := by
  unfold lineB
  rw [mkB_same h.kind h.first h.last h.over, h.pcs]
theorem encB_same {l m : List (LN × List PC)} (h : RSame l m) (num : Int) : encB num l = encB num m := by
  unfold encB
  rw [h.len, RSame.flat (fun _ _ => lineB_same) h]
theorem RSame.mem {l m : List (LN × List PC)} (h : RSame l m) {r : LN × List PC} (hr : r ∈ l) : ∃ s ∈ m, SameR r s := by
  obtain ⟨k, hk, rfl⟩ := List.getElem_of_mem hr
  have hk2 : k < m.length := by rw [← h.len]; exact hk
  exact ⟨_, List.getElem_mem hk2, h.at_ k _ _ (List.getElem?_eq_getElem hk) (List.getElem?_eq_getElem hk2)⟩
theorem MayP.same {l m : List (LN × List PC)} (h : RSame l m) {num : Int} (hm : MayP num l) : MayP num m := by
  obtain ⟨⟨h1, h2, h3⟩, h4, h5⟩ := hm
  refine ⟨⟨h1, h2, by rw [← h.len]; exact h3⟩, fun r hr => ?_, fun p hp => ?_⟩
  · obtain ⟨s, hs, hsm⟩ := h.symm.mem hr
    have := h4 s hs
    unfold lineOk at *
    rw [hsm.kind, hsm.pcs]
    exact this
  · refine h5 p ?_
    have e : flatP l = flatP m := by
      unfold flatP
      exact RSame.flat (fun r s hs => hs.pcs) h
    rw [e]
    exact hp
theorem GoodP.same {l m : List (LN × List PC)} (h : RSame l m) {num : Int} (hm : GoodP num l) : GoodP num m := ⟨hm.1.same h, by rw [← encB_same h]; exact hm.2⟩
/-! ### reading lines -/
def stepL (s : List (LN × List PC) × RS) : List (LN × List PC) × RS := if s.2.ok then (s.1 ++ [(lineD s.2).1], (lineD s.2).2) else s
def rdLs : Nat → List (LN × List PC) × RS → List (LN × List PC) × RS
  | 0, s => s
  | n + 1, s => stepL (rdLs n s)
theorem rdLs_stop {s : List (LN × List PC) × RS} {j : Nat} (h : (rdLs j s).2.ok = false) : ∀ m, j ≤ m → rdLs m s = rdLs j s
  | 0, hm => by rw [Nat.le_zero.1 hm]
  | m + 1, hm => by
    rcases Nat.lt_or_ge m j with h1 | h1
    · rw [show j = m + 1 by omega]
    · have ih := rdLs_stop h m h1
      show stepL (rdLs m s) = _
      rw [ih, stepL, h]
      rfl
theorem rdLs_more {s : List (LN × List PC) × RS} {j : Nat} {ls : List (LN × List PC)} {st : RS} (h1 : (rdLs j s).1 = ls) (h2 : (rdLs j s).2 = st) (h3 : st.ok = true) : rdLs (j + 1) s = (ls ++ [(lineD st).1], (lineD st).2) := by
  show stepL (rdLs j s) = _
  unfold stepL
  rw [h1, h2, if_pos h3]
def decN (b : List UInt8) : Int := (at8 (takeD 2 ⟨b, true⟩).1 0).toNat
def decS (b : List UInt8) : List (LN × List PC) × RS := rdLs (at8 (takeD 2 ⟨b, true⟩).1 1).toNat ([], (takeD 2 ⟨b, true⟩).2)
/-- the bytes are a sheet's -/
def OkD (b : List UInt8) : Prop := GoodP (decN b) (decS b).1 ∧ (decS b).2.ok = true ∧ encB (decN b) (decS b).1 = b
theorem lineD_pc {s : RS} : ∀ x ∈ (lineD s).1.2, -9223372036854775808 ≤ x.x ∧ x.x ≤ 9223372036854775807 := by
  suffices h : ∀ n q, (∀ x ∈ (q : List PC × RS).1, -9223372036854775808 ≤ x.x ∧ x.x ≤ 9223372036854775807) → ∀ x ∈ (rdPs n q).1, -9223372036854775808 ≤ x.x ∧ x.x ≤ 9223372036854775807 from h _ _ (fun x hx => by cases hx)
  intro n q hq
  induction n with
  | zero => exact hq
  | succ n ih =>
    intro x hx
    unfold rdPs stepP at hx
    split at hx
    · rcases List.mem_append.1 hx with hx | hx
      · exact ih x hx
      · rw [List.mem_singleton.1 hx]
        have h1 := (at8 (takeD 3 (rdPs n q).2).1 0).toNat_lt
        have h2 := (at8 (takeD 3 (rdPs n q).2).1 1).toNat_lt
        simp only
        omega
    · exact ih x hx
theorem lineD_kind {s : RS} : 0 ≤ (lineD s).1.1.kind ∧ (lineD s).1.1.kind ≤ 3 := by
  unfold lineD
  simp only
  omega
/-- lines whose pieces lie in rows at or beyond base, none of them in the block row -/
def PcOwn (w : World) (base : Nat) (row : Option Nat) (l : List (LN × List PC)) : Prop := ∀ r ∈ l, ∃ A n c, r.1.pv = .slice A n c ∧ n = r.2.length ∧ w.ownsRow base 47 2 (.slice A n c) n (pcs r.2) ∧ (∀ x ∈ r.2, -9223372036854775808 ≤ x.x ∧ x.x ≤ 9223372036854775807) ∧ (∀ b, (Value.slice A n c).ownBlock = some b → row ≠ some b)
theorem PcOwn.but {w w' : World} {base p : Nat} {row : Option Nat} {l : List (LN × List PC)} (h : PcOwn w base row l) (hb : But w.heap.size (· = p) w w') (hp : p < base) : PcOwn w' base row l := fun r hr => by
  obtain ⟨A, n, c, h1, h2, h3, h4, h5⟩ := h r hr
  exact ⟨A, n, c, h1, h2, own_but h3 hb hp, h4, h5⟩
theorem PcOwn.nxt {w w' : World} {base : Nat} {row : Option Nat} {l : List (LN × List PC)} (h : PcOwn w base row l) (hb : Below w.heap.size w w') : PcOwn w' base row l := fun r hr => by
  obtain ⟨A, n, c, h1, h2, h3, h4, h5⟩ := h r hr
  exact ⟨A, n, c, h1, h2, own_below h3 hb, h4, h5⟩
theorem PcOwn.grown {w w' : World} {base : Nat} {row row' : Option Nat} {l : List (LN × List PC)} (h : PcOwn w base row l) (hg : w.grownBy w' row) (hat : row' = row ∨ row' = some w.heap.size) : PcOwn w' base row' l := fun r hr => by
  obtain ⟨A, n, c, h1, h2, h3, h4, h5⟩ := h r hr
  refine ⟨A, n, c, h1, h2, ⟨h3.1, ?_⟩, h4, fun b hb => ?_⟩
  · rcases h3.2 with h | ⟨g, cap, cur, e1, e2, e3, e4⟩
    · exact .inl h
    · exact .inr ⟨g, cap, cur, e1, e2, (hg.block g (Array.getElem?_eq_some_iff.1 e3).1 (fun e => h5 g (by rw [e1]; rfl) e.symm)).trans e3, e4⟩
  · rcases hat with rfl | rfl
    · exact h5 b hb
    · intro e
      have : w.heap.size = b := by simpa using e
      have := (h3.lt b hb).2
      omega
theorem PcOwn.set {w : World} {base : Nat} {row : Option Nat} {l : List (LN × List PC)} (h : PcOwn w base row l) {a : Addr} (ha : a.block < base) (v : Value) : PcOwn (w.setCell a v) base row l := fun r hr => by
  obtain ⟨A, n, c, h1, h2, h3, h4, h5⟩ := h r hr
  exact ⟨A, n, c, h1, h2, ownsRow_setCell_below h3 ha v, h4, h5⟩
theorem PcOwn.snoc {w : World} {base : Nat} {row : Option Nat} {l : List (LN × List PC)} {r : LN × List PC} (h : PcOwn w base row l) {A : Option Addr} {n c : Nat} (h1 : r.1.pv = .slice A n c) (h2 : n = r.2.length) (h3 : w.ownsRow base 47 2 (.slice A n c) n (pcs r.2))
    (h4 : ∀ x ∈ r.2, -9223372036854775808 ≤ x.x ∧ x.x ≤ 9223372036854775807) (h5 : ∀ b, (Value.slice A n c).ownBlock = some b → row ≠ some b) : PcOwn w base row (l ++ [r]) := fun s hs => by
  rcases List.mem_append.1 hs with hs | hs
  · exact h s hs
  · rw [List.mem_singleton.1 hs]; exact ⟨A, n, c, h1, h2, h3, h4, h5⟩
theorem PcOwn.one {w : World} {base : Nat} {row : Option Nat} {l : List (LN × List PC)} (h : PcOwn w base row l) : ∀ x ∈ lnsOf l, x.One := fun x hx => by
  obtain ⟨r, hr, rfl⟩ := List.mem_map.1 hx
  obtain ⟨A, n, c, h1, -⟩ := h r hr
  unfold LN.One
  rw [h1]
  rfl
theorem PcOwn.rn {w : World} {base bl : Nat} {row : Option Nat} {l : List (LN × List PC)} (h : PcOwn w base row l) {A : Option Addr} {n c : Nat} (ho : w.ownsRow bl 45 5 (.slice A n c) n (lns (lnsOf l))) (hl : l.length = n) (hk : ∀ r ∈ l, 0 ≤ r.1.kind ∧ r.1.kind ≤ 3) : RnAt w w.heap.size A n c l := by
  refine ⟨own_ln ho (by unfold lnsOf; rw [List.length_map, hl]) (fun x hx => ?_), fun r hr => ?_⟩
  · obtain ⟨r, hr, rfl⟩ := List.mem_map.1 hx
    have := hk r hr
    omega
  · obtain ⟨A', n', c', h1, h2, h3, h4, -⟩ := h r hr
    obtain ⟨_, _, e, hc, hm⟩ := own_form h3
    cases e
    exact ⟨A', n', c', h1, ⟨h4, h2.symm, Sl.of_own h3, hc, hm⟩⟩
end Go.Proofs.YtiffcdeagckgmaaDoor
