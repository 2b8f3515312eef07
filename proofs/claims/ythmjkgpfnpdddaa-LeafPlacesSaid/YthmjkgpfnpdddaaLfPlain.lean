/- Leaves and roots in plain Lean: what may be, their blocks, those of a block; no program in sight. -/
import Derived.Test.YthmjkgpfnpdddaaObjPlain
import Derived.Test.YthmjkgpfnpdddaaShaSmall
namespace Go.Proofs.Ythmjkgpfnpdddaa
set_option linter.unusedSimpArgs false
set_option linter.unusedVariables false

structure EN where
  key : List UInt8
  place : Int
  blocks : Int
  refs : Int
  deriving DecidableEq
structure EN.Ok (x : EN) : Prop where
  key : x.key.length = 32
  place : -9223372036854775808 ≤ x.place ∧ x.place ≤ 9223372036854775807
  blocks : -9223372036854775808 ≤ x.blocks ∧ x.blocks ≤ 9223372036854775807
  refs : -9223372036854775808 ≤ x.refs ∧ x.refs ≤ 9223372036854775807
def EN.cells (x : EN) : List Value := bvs x.key ++ [.int .i64 x.place, .int .i64 x.blocks, .int .i64 x.refs]
theorem EN.Ok.len {x : EN} (h : x.Ok) : x.cells.length = 35 := by simp [EN.cells, bvs_len, h.key]
def env (x : EN) : Value := .agg x.cells.toArray
def ens (l : List EN) : List Value := l.flatMap EN.cells
def EN.one (x : EN) : Bool := decide (2 ≤ x.place ∧ x.place < 128 ∧ 1 ≤ x.blocks ∧ x.blocks ≤ 8 ∧ x.blocks ≤ 128 - x.place ∧ 0 ≤ x.refs ∧ x.refs ≤ 1000)
theorem EN.one_iff (x : EN) : x.one = true ↔ 2 ≤ x.place ∧ x.place < 128 ∧ 1 ≤ x.blocks ∧ x.blocks ≤ 8 ∧ x.blocks ≤ 128 - x.place ∧ 0 ≤ x.refs ∧ x.refs ≤ 1000 := by unfold EN.one; rw [decide_eq_true_eq]
/-- may they be, as far as k -/
def okTo (l : List EN) (k : Nat) : Prop := ∀ j : Nat, j < k → ∃ x, l[j]? = some x ∧ x.one = true ∧ (0 < j → ∃ y, l[j - 1]? = some y ∧ lt8 y.key x.key = true)
def chain : List EN → Bool
  | [] => true
  | [x] => x.one
  | x :: y :: l => x.one && lt8 x.key y.key && chain (y :: l)
def goodE (l : List EN) : Bool := decide (1 ≤ l.length ∧ l.length ≤ 3) && chain l
theorem chain_iff : ∀ (l : List EN), chain l = true ↔ okTo l l.length
  | [] => by simp [chain, okTo]
  | [x] => by
    constructor
    · intro h j hj
      obtain rfl : j = 0 := by simp at hj; omega
      exact ⟨x, rfl, h, fun h => absurd h (by omega)⟩
    · intro h
      obtain ⟨y, e, h1, -⟩ := h 0 (by simp)
      simp at e
      subst e
      exact h1
  | x :: y :: l => by
    have ih := chain_iff (y :: l)
    rw [chain, Bool.and_eq_true, Bool.and_eq_true, ih]
    constructor
    · rintro ⟨⟨h1, h2⟩, h3⟩ j hj
      match j with
      | 0 => exact ⟨x, rfl, h1, fun h => absurd h (by omega)⟩
      | 1 =>
        obtain ⟨z, e, h4, -⟩ := h3 0 (by simp)
        simp at e
        subst e
        exact ⟨y, rfl, h4, fun _ => ⟨x, rfl, h2⟩⟩
      | j + 2 =>
        obtain ⟨z, e, h4, h5⟩ := h3 (j + 1) (by simp at hj ⊢; omega)
        exact ⟨z, by simpa using e, h4, fun _ => by simpa using h5 (by omega)⟩
    · intro h
      obtain ⟨x', e0, h0, -⟩ := h 0 (by simp)
      obtain ⟨y', e1, h1, h1'⟩ := h 1 (by simp)
      obtain ⟨z, ez, hz⟩ := h1' (by omega)
      simp at e0 e1 ez
      subst e0 e1 ez
      refine ⟨⟨h0, hz⟩, fun j hj => ?_⟩
      obtain ⟨q, e, h4, h5⟩ := h (j + 1) (by simp at hj ⊢; omega)
      refine ⟨q, by simpa using e, h4, fun h0 => ?_⟩
      obtain ⟨k, hk⟩ : ∃ k, j = k + 1 := ⟨j - 1, by omega⟩
      subst hk
      simpa using h5 (by omega)
/-- bytes -/
def EN.bytes (x : EN) : List UInt8 := x.key ++ [u8 x.place, u8 x.blocks, u8 (x.refs / 256), u8 x.refs]
theorem EN.Ok.bytes {x : EN} (h : x.Ok) : x.bytes.length = 36 := by simp [EN.bytes, h.key]
def lfTo (n : Nat) (l : List EN) (k : Nat) : List UInt8 := [76, u8 (n : Int)] ++ (l.take k).flatMap EN.bytes
def lfB (l : List EN) : List UInt8 := [76, u8 (l.length : Int)] ++ l.flatMap EN.bytes
def sealB (b : List UInt8) : Blk := pad (b ++ chk b)
theorem sealB_len {b : List UInt8} (h : b.length ≤ 124) : (sealB b).length = 128 := pad_len (by rw [List.length_append, chk_len]; omega)
def lfEnc (l : List EN) : Blk := if goodE l then sealB (lfB l) else zblk
def erE (b : Bool) : Int := if b then 0 else 11
theorem bytes_len {l : List EN} (h : ∀ x ∈ l, x.Ok) : (l.flatMap EN.bytes).length = l.length * 36 := by
  induction l with
  | nil => rfl
  | cons y l ih => rw [List.flatMap_cons, List.length_append, ih (fun x hx => h x (by simp [hx])), (h y (by simp)).bytes, List.length_cons]; omega
theorem lfB_len {l : List EN} (h : ∀ x ∈ l, x.Ok) : (lfB l).length = 2 + l.length * 36 := by unfold lfB; rw [List.length_append, bytes_len h]; rfl
theorem goodE_iff {l : List EN} : goodE l = true ↔ (1 ≤ l.length ∧ l.length ≤ 3) ∧ okTo l l.length := by unfold goodE; rw [Bool.and_eq_true, decide_eq_true_eq, chain_iff]
theorem lfEnc_len {l : List EN} (h : ∀ x ∈ l, x.Ok) : (lfEnc l).length = 128 := by
  unfold lfEnc
  split
  · rename_i hg
    have := (goodE_iff.1 hg).1
    exact sealB_len (by rw [lfB_len h]; omega)
  · exact zblk_len
/-- the entries of a block -/
def enAt (b : List UInt8) (o : Nat) : EN := ⟨(b.drop o).take 32, (at8 b (o + 32)).toNat, (at8 b (o + 33)).toNat, (n16 b (o + 34) : Nat)⟩
def enL (b : Blk) (n : Nat) : List EN := (List.range n).map (fun k => enAt b (2 + k * 36))
def lfN (b : Blk) : Nat := (at8 b 1).toNat
def isLf (b : Blk) : Bool := decide (lfN b ≤ 3) && (goodE (enL b (lfN b)) && (sealB (lfB (enL b (lfN b))) == b))
def lfDec (b : Blk) : List EN := if isLf b then enL b (lfN b) else []
/-- roots -/
def okR (l : List Int) (k : Nat) : Prop := ∀ j : Nat, j < k → ∃ z, l[j]? = some z ∧ 2 ≤ z ∧ z < 128 ∧ ∀ i : Nat, i < j → l[i]? ≠ some z
def rtB (l : List Int) : List UInt8 := [82, u8 (l.length : Int)] ++ l.map u8
def goodR : List Int → Bool := fun l => decide (1 ≤ l.length ∧ l.length ≤ 100) && decide (l.Nodup ∧ ∀ z ∈ l, 2 ≤ z ∧ z < 128)
def rtEnc (l : List Int) : Blk := if goodR l then sealB (rtB l) else zblk
def rtL (b : Blk) : List Int := ((b.drop 2).take (lfN b)).map (fun x => (x.toNat : Int))
def isRt (b : Blk) : Bool := decide (lfN b ≤ 100) && (goodR (rtL b) && (sealB (rtB (rtL b)) == b))
def rtDec (b : Blk) : List Int := if isRt b then rtL b else []
end Go.Proofs.Ythmjkgpfnpdddaa
