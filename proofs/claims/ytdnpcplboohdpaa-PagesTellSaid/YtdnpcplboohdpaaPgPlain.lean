/- Pages in plain Lean: what a page costs, the best pages of a section, of all lines; no program in sight. -/
import Derived.Test.YtdnpcplboohdpaaRow
namespace Go.Proofs.Ytdnpcplboohdpaa
set_option linter.unusedSimpArgs false
set_option linter.unusedVariables false

/-- a line, as far as pages look at it -/
structure LN where
  kind : Int
  first : Bool
  last : Bool
  over : Bool
  pv : Value
def LN.cells (x : LN) : List Value := [.int .i64 x.kind, .bool x.first, .bool x.last, .bool x.over, x.pv]
def lns (l : List LN) : List Value := l.flatMap LN.cells
theorem LN.len (x : LN) : x.cells.length = 5 := rfl
theorem lns_len (l : List LN) : (lns l).length = l.length * 5 := by
  unfold lns
  induction l with
  | nil => rfl
  | cons x l ih => rw [List.flatMap_cons, List.length_append, ih, LN.len, List.length_cons]; omega
theorem lns_part {l : List LN} {k : Nat} {x : LN} (hx : l[k]? = some x) : ((lns l).drop (k * 5)).take 5 = x.cells := by
  induction l generalizing k with
  | nil => simp at hx
  | cons y l ih =>
    match k with
    | 0 =>
      simp at hx; subst hx
      simp [lns, List.flatMap_cons, LN.cells]
    | k + 1 =>
      have := ih (k := k) (by simpa using hx)
      rw [lns, List.flatMap_cons, Nat.add_mul, Nat.one_mul, Nat.add_comm (k * 5), ← List.drop_drop]
      have e : (y.cells ++ List.flatMap LN.cells l).drop 5 = lns l := by
        rw [show (5 : Nat) = y.cells.length from rfl, List.drop_left]; rfl
      rw [e]; exact this
/-- is it an eject? -/
def LN.ej (x : LN) : Bool := decide (x.kind = 4)
/-- the first eject from a place on, or behind all -/
def ejP (l : List LN) (a : Nat) : Nat := a + (l.drop a).findIdx LN.ej
theorem ejP_le {l : List LN} {a : Nat} (h : a ≤ l.length) : a ≤ ejP l a ∧ ejP l a ≤ l.length := by
  unfold ejP
  have := List.findIdx_le_length (xs := l.drop a) (p := LN.ej)
  rw [List.length_drop] at this
  omega
theorem ejP_before {l : List LN} {a i : Nat} {x : LN} (h1 : a ≤ i) (h2 : i < ejP l a) (hx : l[i]? = some x) : x.ej = false := by
  unfold ejP at h2
  have h3 : i - a < (l.drop a).findIdx LN.ej := by omega
  have h4 := List.not_of_lt_findIdx h3
  have hl : i - a < (l.drop a).length := Nat.lt_of_lt_of_le h3 List.findIdx_le_length
  have e : (l.drop a)[i - a] = x := by
    obtain ⟨hi, rfl⟩ := List.getElem?_eq_some_iff.1 hx
    rw [List.getElem_drop]
    congr 1
    omega
  rw [e] at h4
  simpa using h4
theorem ejP_at {l : List LN} {a : Nat} (h : ejP l a < l.length) : ∃ x, l[ejP l a]? = some x ∧ x.ej = true := by
  have h1 : (l.drop a).findIdx LN.ej < (l.drop a).length := by
    unfold ejP at h
    rw [List.length_drop]
    omega
  refine ⟨(l.drop a)[(l.drop a).findIdx LN.ej], ?_, List.findIdx_getElem (w := h1)⟩
  rw [List.getElem_drop]
  exact List.getElem?_eq_getElem _
/-- may it be a page? -/
def pgOk (l : List LN) (a b : Int) (h : Int) : Bool := decide (0 ≤ a ∧ a < b ∧ b ≤ l.length ∧ b - a ≤ h) && decide (b ≤ (ejP l a.toNat : Nat))
def lack (a b h : Int) : Int := 10 * (h - (b - a)) * (h - (b - a))
/-- the price, if it may -/
def price (l : List LN) (a b h : Int) : Int :=
  match l[b.toNat]?, l[b.toNat - 1]? with
  | some q, some e => if q.ej then 0 else
      lack a b h + (if e.first && !e.last then 150 else 0) + (if q.last && !q.first then 150 else 0) + (if decide (e.kind = 2) then 500 else 0)
  | _, _ => 0
def costN (l : List LN) (a b h : Int) : Int := if pgOk l a b h then price l a b h else 0

/-! ### ways -/
structure WY where
  ends : List Int
  total : Int
  deriving DecidableEq
/-- slices.Compare -/
def cmpL : List Int → List Int → Int
  | [], [] => 0
  | [], _ :: _ => -1
  | _ :: _, [] => 1
  | x :: xs, y :: ys => if x < y then -1 else if y < x then 1 else cmpL xs ys
def bett (a b : WY) : Bool := if a.total = b.total then decide (cmpL a.ends b.ends < 0) else decide (a.total < b.total)
def offr (b : Option WY) (w : WY) : Option WY := match b with
  | none => some w
  | some x => if bett w x then some w else some x
/-- the way by a break at i, of a section's first k lines -/
def byWay (l : List LN) (from_ : Nat) (h : Int) (f : List (Option WY)) (k i : Nat) : Option WY :=
  if pgOk l (from_ + i : Nat) (from_ + k : Nat) h then (f[i]?.join).map fun w => ⟨w.ends ++ [((from_ + k : Nat) : Int)], w.total + price l (from_ + i : Nat) (from_ + k : Nat) h⟩ else none
def offo (b : Option WY) (w : Option WY) : Option WY := match w with
  | none => b
  | some x => offr b x
/-- the best one by breaks from lo to lo + n - 1 -/
def bestTo (l : List LN) (from_ : Nat) (h : Int) (f : List (Option WY)) (k lo : Nat) : Nat → Option WY
  | 0 => none
  | n + 1 => offo (bestTo l from_ h f k lo n) (byWay l from_ h f k (lo + n))
def loOf (h : Int) (k : Nat) : Nat := (max 0 ((k : Int) - h)).toNat
def fnd (l : List LN) (from_ : Nat) (h : Int) : Nat → List (Option WY)
  | 0 => [some ⟨[], 0⟩]
  | k + 1 => fnd l from_ h k ++ [bestTo l from_ h (fnd l from_ h k) (k + 1) (loOf h (k + 1)) (k + 1 - loOf h (k + 1))]
theorem fnd_len (l : List LN) (from_ : Nat) (h : Int) (k : Nat) : (fnd l from_ h k).length = k + 1 := by
  induction k with
  | zero => rfl
  | succ k ih => rw [fnd, List.length_append, ih]; rfl
def secP (l : List LN) (from_ t : Nat) (h : Int) : WY := ((fnd l from_ h (t - from_))[t - from_]?.join).getD ⟨[], 0⟩
end Go.Proofs.Ytdnpcplboohdpaa
