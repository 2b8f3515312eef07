/- Breaks in plain Lean: a line's demerits, ways, the best one of all, or of all that may be; no program in sight. -/
import Derived.Test.YtnojikbecohhfaaMsrPlain2
import Derived.Test.YtnojikbecohhfaaBadPlain
import Derived.Test.YtnojikbecohhfaaRow
namespace Go.Proofs.Ytnojikbecohhfaa
set_option linter.unusedSimpArgs false
set_option linter.unusedVariables false
open Go.RowKit

def penAt (l : List It) (p : Int) : Bool := decide (0 ≤ p) && match l[p.toNat]? with
  | some x => x.kind == 3
  | none => false
def costAt (l : List It) (p : Int) : Int := if penAt l p then (match l[p.toNat]? with | some x => pl x.cost | none => 0) else 0
theorem costAt_bd (l : List It) (p : Int) : 0 ≤ costAt l p ∧ costAt l p ≤ 10000 := by
  unfold costAt
  split
  · split
    · exact pl_bd _
    · omega
  · omega
structure LD where
  n : Int
  over : Bool
  may : Bool
def badL (l : List It) (wd f t : Int) : Int × Bool := if t = l.length ∧ 0 ≤ wd - (line l f t).w then (0, true) else badOf (wd - (line l f t).w) (line l f t).y (line l f t).z
def lineD (l : List It) (wd tl f t : Int) : LD :=
  if (badL l wd f t).2 then ⟨dem (badL l wd f t).1 (costAt l t) (penAt l f && penAt l t), false, decide ((badL l wd f t).1 ≤ tl)⟩
  else ⟨100000000000 * (min (-(wd - (line l f t).w)) 10000 - min (line l f t).z 10000), true, false⟩
theorem line_bd (l : List It) (f t : Int) : (0 ≤ (line l f t).w ∧ (line l f t).w ≤ 10000 * l.length + 10000) ∧ (0 ≤ (line l f t).y ∧ (line l f t).y ≤ 10000 * l.length) ∧ 0 ≤ (line l f t).z ∧ (line l f t).z ≤ 10000 * l.length := by
  unfold line lineAt
  generalize fst l f = a
  generalize toAt l.length t = b
  have hs := seg_len' (l := l) (a := a) (b := b)
  split
  · simp only; omega
  · have h1 := sumOf_bd It.wide_bd (seg l a b)
    have h2 := sumOf_bd (f := fun x => pl x.y) (fun x => pl_bd x.y) (seg l a b)
    have h3 := sumOf_bd (f := fun x => pl x.z) (fun x => pl_bd x.z) (seg l a b)
    have h4 := penW_bd l b
    simp only
    omega
theorem badOf_no {d y z : Int} (h : (badOf d y z).2 = false) : min z 10000 < min (-d) 10000 ∧ d < 0 := by
  unfold badOf badC at h
  have h1 := cutZ_bd d (-10000) 10000 (by omega)
  unfold cutZ at h
  split at h
  · cases h
  · split at h
    · cases h
    · split at h
      · cases h
      · split at h
        · rename_i h4; omega
        · cases h
theorem lineD_over {l : List It} {wd tl f t : Int} (h : (lineD l wd tl f t).over = true) : 100000000000 ≤ (lineD l wd tl f t).n ∧ (lineD l wd tl f t).n ≤ 1000000000000000 ∧ (lineD l wd tl f t).may = false := by
  unfold lineD at h ⊢
  split at h
  · cases h
  · rename_i hb
    rw [if_neg hb]
    have hz := line_bd l f t
    have : (badL l wd f t).2 = false := by simpa using hb
    unfold badL at this
    split at this
    · cases this
    · have := badOf_no this
      refine ⟨?_, ?_, rfl⟩
      · simp only
        have h1 : 1 ≤ min (-(wd - (line l f t).w)) 10000 - min (line l f t).z 10000 := by omega
        omega
      · simp only
        omega
theorem lineD_fits {l : List It} {wd tl f t : Int} (h : (lineD l wd tl f t).over = false) : 100 ≤ (lineD l wd tl f t).n ∧ (lineD l wd tl f t).n < 100000000000 := by
  unfold lineD at h ⊢
  split at h
  · rename_i hb
    rw [if_pos hb]
    exact dem_bd _ _ _
  · cases h
theorem lineD_bd (l : List It) (wd tl f t : Int) : 100 ≤ (lineD l wd tl f t).n ∧ (lineD l wd tl f t).n ≤ 1000000000000000 := by
  cases h : (lineD l wd tl f t).over
  · have := lineD_fits h; omega
  · have := lineD_over h; omega
def bx (l : List It) (f t : Int) : Bool := decide (((fst l f : Nat) : Int) < t)

/-! ### ways -/
structure WY where
  ends : List Int
  total : Int
  over : Int
  deriving DecidableEq
def wy0 : WY := ⟨[], 0, 0⟩
/-- slices.Compare -/
def cmpL : List Int → List Int → Int
  | [], [] => 0
  | [], _ :: _ => -1
  | _ :: _, [] => 1
  | x :: xs, y :: ys => if x < y then -1 else if y < x then 1 else cmpL xs ys
def bett (a b : WY) : Bool := if a.total = b.total then decide (cmpL a.ends b.ends < 0) else decide (a.total < b.total)
def offr (b : Option WY) (w : WY) : Option WY := match b with
  | none => some w
  | some x => if bett w x then some w else some x
def offo (b : Option WY) (w : Option WY) : Option WY := match w with
  | none => b
  | some x => offr b x
def withW (l : List It) (wd tl : Int) (w : WY) (f t : Int) : WY := ⟨w.ends ++ [t], w.total + (lineD l wd tl f t).n, w.over + (if (lineD l wd tl f t).over then 1 else 0)⟩
/-- where lines begin and end -/
def plc (l : List It) : List Int := -1 :: (brks l).map (fun n : Nat => (n : Int))
def plcAt (l : List It) (k : Nat) : Int := (plc l)[k]?.getD 0
theorem plc_len (l : List It) : (plc l).length = (brks l).length + 1 := by simp [plc]
theorem plc_rng {l : List It} {k : Nat} (h : k < (plc l).length) : -1 ≤ plcAt l k ∧ plcAt l k ≤ l.length := by
  unfold plcAt
  rw [List.getElem?_eq_getElem h]
  simp only [Option.getD_some]
  have hm := List.getElem_mem h
  unfold plc at hm
  rcases List.mem_cons.1 hm with e | hm
  · rw [show (plc l)[k] = (-1 : Int) from e]; omega
  · obtain ⟨z, hz, e⟩ := List.mem_map.1 hm
    have := brks_le z hz
    rw [show (plc l)[k] = (z : Int) from e.symm]
    omega
/-- the way by a break at the i-th place, of those to the k-th -/
def byWay (l : List It) (wd tl : Int) (all : Bool) (f : List (Option WY)) (k i : Nat) : Option WY :=
  if bx l (plcAt l i) (plcAt l k) then (f[i]?.join).bind fun w => if (lineD l wd tl (plcAt l i) (plcAt l k)).may || all then some (withW l wd tl w (plcAt l i) (plcAt l k)) else none else none
def bestTo (l : List It) (wd tl : Int) (all : Bool) (f : List (Option WY)) (k : Nat) : Nat → Option WY
  | 0 => none
  | n + 1 => offo (bestTo l wd tl all f k n) (byWay l wd tl all f k n)
def fnd (l : List It) (wd tl : Int) (all : Bool) : Nat → List (Option WY)
  | 0 => [some wy0]
  | k + 1 => fnd l wd tl all k ++ [bestTo l wd tl all (fnd l wd tl all k) (k + 1) (k + 1)]
theorem fnd_len (l : List It) (wd tl : Int) (all : Bool) (k : Nat) : (fnd l wd tl all k).length = k + 1 := by
  induction k with
  | zero => rfl
  | succ k ih => rw [fnd, List.length_append, ih]; rfl
def srch (l : List It) (wd tl : Int) (all : Bool) : Option WY := (fnd l wd tl all (brks l).length)[(brks l).length]?.join
def bestP (l : List It) (wd tl : Int) : WY := if 600 < l.length ∨ bx l (-1) l.length = false then wy0 else match srch l wd tl false with
  | some w => w
  | none => (srch l wd tl true).getD wy0
/-! ### bounds -/
def okWY (n j : Nat) (y : WY) : Prop := (0 ≤ y.total ∧ y.total ≤ 1000000000000000 * (j : Int)) ∧ (0 ≤ y.over ∧ y.over ≤ (j : Int)) ∧ y.ends.length ≤ j ∧ ∀ z ∈ y.ends, -1 ≤ z ∧ z ≤ (n : Int)
theorem okWY_zero (n j : Nat) : okWY n j wy0 := ⟨by simp only [wy0]; omega, by simp only [wy0]; omega, by simp [wy0], fun z hz => by simp [wy0] at hz⟩
theorem offr_ok {n j : Nat} {b : Option WY} {y z : WY} (hb : ∀ x, b = some x → okWY n j x) (hy : okWY n j y) (h : offr b y = some z) : okWY n j z := by
  unfold offr at h
  split at h
  · injection h with h; rw [← h]; exact hy
  · split at h
    · injection h with h; rw [← h]; exact hy
    · injection h with h; rw [← h]; exact hb _ rfl
theorem withW_ok {l : List It} {wd tl f t : Int} {j : Nat} {w : WY} (h : okWY l.length j w) (ht : -1 ≤ t ∧ t ≤ l.length) : okWY l.length (j + 1) (withW l wd tl w f t) := by
  obtain ⟨h1, h2, h3, h4⟩ := h
  have hd := lineD_bd l wd tl f t
  unfold withW
  refine ⟨by simp only; omega, ?_, by simp only [List.length_append, List.length_cons, List.length_nil]; omega, fun z hz => ?_⟩
  · simp only
    split <;> omega
  · simp only [List.mem_append, List.mem_cons, List.not_mem_nil, or_false] at hz
    rcases hz with hz | rfl
    · exact h4 z hz
    · exact ht
theorem okWY.up {n j k : Nat} {y : WY} (h : okWY n j y) (hk : j ≤ k) : okWY n k y := ⟨by have := h.1; omega, by have := h.2.1; omega, by have := h.2.2.1; omega, h.2.2.2⟩
theorem byWay_ok {l : List It} {wd tl : Int} {all : Bool} {f : List (Option WY)} {k i : Nat} {y : WY} (hik : i < k) (hk : k < (plc l).length) (hf : ∀ x, f[i]?.join = some x → okWY l.length i x) (hy : byWay l wd tl all f k i = some y) : okWY l.length k y := by
  unfold byWay at hy
  split at hy
  · cases hj : f[i]?.join with
    | none => rw [hj] at hy; cases hy
    | some x =>
      rw [hj] at hy
      simp only [Option.bind_some] at hy
      split at hy
      · injection hy with hy
        rw [← hy]
        exact (withW_ok (hf x hj) (plc_rng hk)).up (by omega)
      · cases hy
  · cases hy
theorem bestTo_ok {l : List It} {wd tl : Int} {all : Bool} {f : List (Option WY)} {k : Nat} (hk : k < (plc l).length) (hf : ∀ i x, f[i]?.join = some x → okWY l.length i x) : ∀ (n : Nat), n ≤ k → ∀ y, bestTo l wd tl all f k n = some y → okWY l.length k y
  | 0, _, y, hy => by cases hy
  | n + 1, hn, y, hy => by
    rw [bestTo] at hy
    have ih := bestTo_ok hk hf (wd := wd) (tl := tl) (all := all) n (by omega)
    unfold offo at hy
    split at hy
    · exact ih y hy
    · rename_i x hx
      exact offr_ok ih (byWay_ok (by omega) hk (hf n) hx) hy
theorem fnd_ok {l : List It} {wd tl : Int} {all : Bool} : ∀ (k i : Nat) (x : WY), k < (plc l).length → (fnd l wd tl all k)[i]?.join = some x → okWY l.length i x
  | 0, i, x, _, hx => by
    rw [fnd] at hx
    cases i with
    | zero =>
      simp at hx
      rw [← hx]
      exact okWY_zero _ _
    | succ i => simp at hx
  | k + 1, i, x, hk, hx => by
    have ih := fun i x => fnd_ok (l := l) (wd := wd) (tl := tl) (all := all) k i x (by omega)
    rw [fnd] at hx
    have hlen := fnd_len l wd tl all k
    rcases Nat.lt_trichotomy i (k + 1) with h1 | h1 | h1
    · rw [List.getElem?_append_left (by omega)] at hx
      exact ih i x hx
    · subst h1
      rw [List.getElem?_append_right (by omega), hlen, Nat.sub_self] at hx
      simp at hx
      exact bestTo_ok hk ih _ (Nat.le_refl _) x hx
    · rw [List.getElem?_append_right (by omega), hlen, List.getElem?_eq_none (by simp; omega)] at hx
      cases hx
end Go.Proofs.Ytnojikbecohhfaa
