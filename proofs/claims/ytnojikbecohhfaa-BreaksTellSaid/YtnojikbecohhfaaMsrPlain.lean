/- Plain words for items and the sums of lines; no function of the program is named here. -/
import Derived.Test.YtnojikbecohhfaaMem
namespace Go.Proofs.Ytnojikbecohhfaa
open Go.RowKit Go.ChangeShapes Go.WideShapes

structure It where
  kind : Int
  w : Int
  y : Int
  z : Int
  cost : Int
  text : ByteArray
deriving DecidableEq
def It.enc (x : It) : List Value := [.int .i64 x.kind, .int .i64 x.w, .int .i64 x.y, .int .i64 x.z, .int .i64 x.cost, .string x.text]
theorem It.enc_len (x : It) : x.enc.length = 6 := rfl
def encs (l : List It) : List Value := l.flatMap It.enc
theorem encs_len (l : List It) : (encs l).length = l.length * 6 := flatMap_len It.enc 6 It.enc_len l

section
variable {H : Type} {enc : TypeId × Value → H} {P : Program} {w : World} {base : Nat}
theorem dec_item {t : TypeId} {fs : Array Field} (ht : P.underlying t = some (.struct fs)) (hC : P.cellsOf t = 6)
    (hf : ∀ i, i < 5 → ∃ f, fs[i]? = some f ∧ f.offset = i ∧ P.underlying f.type = some (.int .i64) ∧ P.cellsOf f.type = 1)
    (hs : ∃ f, fs[5]? = some f ∧ f.offset = 5 ∧ P.underlying f.type = some .string ∧ P.cellsOf f.type = 1)
    (fuel : Nat) (cs : List Value) (x : DataW H × List MemPlace) (h : DataW.trod enc P w 0 (fun _ => true) true fuel t cs = some x) : ∃ a : It, cs = a.enc ∧ (-9223372036854775808 ≤ a.kind ∧ a.kind ≤ 9223372036854775807 ∧ a.text.size ≤ maxLen) := by
  obtain ⟨xs, m, _, _, hlen, hxl, hx⟩ := DataW.trod_struct ht h
  have one : ∀ i, i < 5 → ∃ z : Int, (cs.drop i).take 1 = [Value.int .i64 z] ∧ (Lit.int .i64 z).wf = true := fun i hi => by
    obtain ⟨f, h1, h2, h3, h4⟩ := hf i hi
    have := hx i f h1
    have hi' : i < xs.length := by rw [hxl]; exact (Array.getElem?_eq_some_iff.1 h1).1
    rw [h2, h4, List.getElem?_eq_getElem hi'] at this
    exact dec_int h3 _ _ _ this
  obtain ⟨z0, h0, w0⟩ := one 0 (by omega)
  obtain ⟨z1, h1, -⟩ := one 1 (by omega)
  obtain ⟨z2, h2, -⟩ := one 2 (by omega)
  obtain ⟨z3, h3, -⟩ := one 3 (by omega)
  obtain ⟨z4, h4, -⟩ := one 4 (by omega)
  obtain ⟨f, f1, f2, f3, f4⟩ := hs
  have h5 := hx 5 f f1
  rw [f2, f4, List.getElem?_eq_getElem (by rw [hxl]; exact (Array.getElem?_eq_some_iff.1 f1).1)] at h5
  obtain ⟨s, h5, _, hsz⟩ := DataW.trod_string f3 h5
  rw [hC] at hlen
  match cs, hlen with
  | [c0, c1, c2, c3, c4, c5], _ =>
    simp at h0 h1 h2 h3 h4 h5
    subst h0 h1 h2 h3 h4 h5
    exact ⟨⟨z0, z1, z2, z3, z4, s⟩, rfl, (wf64 w0).1, (wf64 w0).2, hsz⟩
end

/-! ### plain numbers -/
def pl (n : Int) : Int := if n < 0 ∨ 10000 < n then 0 else n
theorem pl_bd (n : Int) : 0 ≤ pl n ∧ pl n ≤ 10000 := by unfold pl; split <;> omega
def It.wide (x : It) : Int := if x.kind = 3 then 0 else pl x.w
theorem It.wide_bd (x : It) : 0 ≤ x.wide ∧ x.wide ≤ 10000 := by have := pl_bd x.w; unfold It.wide; split <;> omega
/-- sums -/
def sumOf (f : It → Int) : List It → Int
  | [] => 0
  | x :: l => f x + sumOf f l
theorem sumOf_append (f : It → Int) (a b : List It) : sumOf f (a ++ b) = sumOf f a + sumOf f b := by
  induction a with
  | nil => simp [sumOf]
  | cons x a ih => simp [sumOf, ih, Int.add_assoc]
theorem sumOf_bd {f : It → Int} (hf : ∀ x, 0 ≤ f x ∧ f x ≤ 10000) (l : List It) : 0 ≤ sumOf f l ∧ sumOf f l ≤ 10000 * l.length := by
  induction l with
  | nil => simp [sumOf]
  | cons x l ih => have := hf x; simp only [sumOf, List.length_cons]; omega

/-- the first Box at or behind a place -/
def nb (l : List It) (i : Nat) : Nat := i + (l.drop i).findIdx (fun x => x.kind == 1)
theorem nb_end {l : List It} {i : Nat} (h : l.length ≤ i) : nb l i = i := by simp [nb, List.drop_of_length_le h]
theorem nb_box {l : List It} {i : Nat} {x : It} (h : l[i]? = some x) (hx : x.kind = 1) : nb l i = i := by
  obtain ⟨hi, rfl⟩ := List.getElem?_eq_some_iff.1 h
  rw [nb, List.drop_eq_getElem_cons hi, List.findIdx_cons]
  simp [hx]
theorem nb_next {l : List It} {i : Nat} {x : It} (h : l[i]? = some x) (hx : x.kind ≠ 1) : nb l i = nb l (i + 1) := by
  obtain ⟨hi, rfl⟩ := List.getElem?_eq_some_iff.1 h
  have hx' : (l[i].kind == 1) = false := by simpa using hx
  rw [nb, List.drop_eq_getElem_cons hi, List.findIdx_cons, hx']
  simp only [nb, cond_false]
  omega
theorem nb_ge (l : List It) (i : Nat) : i ≤ nb l i := Nat.le_add_right _ _
theorem nb_le {l : List It} {i : Nat} (h : i ≤ l.length) : nb l i ≤ l.length := by
  have : (l.drop i).findIdx (fun x => x.kind == 1) ≤ (l.drop i).length := List.findIdx_le_length
  rw [List.length_drop] at this
  unfold nb; omega
theorem nb_is {l : List It} {i : Nat} (h : nb l i < l.length) : ∃ x, l[nb l i]? = some x ∧ x.kind = 1 := by
  have h1 : (l.drop i).findIdx (fun x => x.kind == 1) < (l.drop i).length := by rw [List.length_drop]; unfold nb at h; omega
  have := List.findIdx_getElem (w := h1)
  refine ⟨_, List.getElem?_eq_getElem h, ?_⟩
  simpa [nb] using this
theorem nb_not {l : List It} {i k : Nat} {x : It} (h1 : i ≤ k) (h2 : k < nb l i) (hx : l[k]? = some x) : x.kind ≠ 1 := by
  have h3 : k - i < (l.drop i).findIdx (fun x => x.kind == 1) := by unfold nb at h2; omega
  have := List.not_of_lt_findIdx h3
  obtain ⟨hk, rfl⟩ := List.getElem?_eq_some_iff.1 hx
  simp only [List.getElem_drop, show i + (k - i) = k from by omega] at this
  simpa using this
theorem nb_mono {l : List It} {i j : Nat} (h : i ≤ j) (hj : j ≤ l.length) : nb l i ≤ nb l j := by
  rcases Nat.lt_or_ge (nb l j) (nb l i) with h1 | h1
  · obtain ⟨x, hx, hk⟩ := nb_is (l := l) (i := j) (by have := nb_le (l := l) (i := i) (by omega); omega)
    exact absurd hk (nb_not (by have := nb_ge l j; omega) h1 hx)
  · exact h1

/-- where a line begins -/
def startAt (n : Nat) (from_ : Int) : Nat := min (max (-1) (min from_ n) + 1).toNat n
def fst (l : List It) (from_ : Int) : Nat := nb l (startAt l.length from_)
/-- where a line ends -/
def toAt (n : Nat) (to : Int) : Nat := (max 0 (min to n)).toNat
theorem toAt_le (n : Nat) (to : Int) : toAt n to ≤ n := by unfold toAt; omega
def seg (l : List It) (a b : Nat) : List It := (l.drop a).take (b - a)
theorem seg_nil {l : List It} {a b : Nat} (h : b ≤ a) : seg l a b = [] := by simp [seg, Nat.sub_eq_zero_of_le h]
theorem seg_next {l : List It} {a b : Nat} {x : It} (h : a ≤ b) (hx : l[b]? = some x) : seg l a (b + 1) = seg l a b ++ [x] := by
  obtain ⟨hb, rfl⟩ := List.getElem?_eq_some_iff.1 hx
  rw [seg, seg, show b + 1 - a = (b - a) + 1 from by omega, List.take_add_one, List.getElem?_drop, show a + (b - a) = b from by omega, List.getElem?_eq_getElem hb]
  rfl
theorem seg_split {l : List It} {a b c : Nat} (h1 : a ≤ b) (h2 : b ≤ c) : seg l a c = seg l a b ++ seg l b c := by
  rw [seg, seg, seg, show c - a = (b - a) + (c - b) from by omega, List.take_add, List.drop_drop, show a + (b - a) = b from by omega]
theorem seg_len {l : List It} {a b : Nat} : (seg l a b).length ≤ b - a := by rw [seg, List.length_take]; omega
theorem seg_len' {l : List It} {a b : Nat} : (seg l a b).length ≤ l.length := by rw [seg, List.length_take, List.length_drop]; omega

structure Sm where
  w : Int
  y : Int
  z : Int
deriving DecidableEq
def Sm.cells (s : Sm) : Array Value := #[.int .i64 s.w, .int .i64 s.y, .int .i64 s.z]
def penW (l : List It) (t : Nat) : Int := match l[t]? with
  | some x => if x.kind = 3 then pl x.w else 0
  | none => 0
theorem penW_bd (l : List It) (t : Nat) : 0 ≤ penW l t ∧ penW l t ≤ 10000 := by
  unfold penW
  split
  · rename_i x _; have := pl_bd x.w; split <;> omega
  · omega
def Sm.of (l : List It) : Sm := ⟨sumOf It.wide l, sumOf (fun x => pl x.y) l, sumOf (fun x => pl x.z) l⟩
def lineAt (l : List It) (f t : Nat) : Sm := if t ≤ f then ⟨0, 0, 0⟩ else ⟨sumOf It.wide (seg l f t) + penW l t, sumOf (fun x => pl x.y) (seg l f t), sumOf (fun x => pl x.z) (seg l f t)⟩
def line (l : List It) (from_ to : Int) : Sm := lineAt l (fst l from_) (toAt l.length to)

/-- may it be broken there? -/
def mayB (l : List It) (i : Nat) : Bool := match l[i]? with
  | none => false
  | some x => x.kind == 3 || x.kind == 2 && decide (0 < pl x.y) && (match i with
    | 0 => false
    | j + 1 => match l[j]? with
      | some p => p.kind == 1
      | none => false)
def brksTo (l : List It) (k : Nat) : List Nat := (List.range k).filter (mayB l)
def brks (l : List It) : List Nat := brksTo l l.length ++ [l.length]
theorem brksTo_next (l : List It) (k : Nat) : brksTo l (k + 1) = brksTo l k ++ if mayB l k = true then [k] else [] := by
  rw [brksTo, List.range_succ, List.filter_append]
  simp only [List.filter_cons, List.filter_nil]
  rfl
theorem brksTo_len (l : List It) (k : Nat) : (brksTo l k).length ≤ k := by
  have := List.length_filter_le (mayB l) (List.range k)
  rwa [List.length_range] at this
def ints (l : List Nat) : List Value := l.map (fun k : Nat => Value.int .i64 k)
theorem ints_append (a b : List Nat) : ints (a ++ b) = ints a ++ ints b := List.map_append ..
theorem ints_len (a : List Nat) : (ints a).length = a.length := List.length_map ..
end Go.Proofs.Ytnojikbecohhfaa
