/- A revision and a log in plain Lean: what may be, their bytes, those of bytes; no program in sight. -/
import Derived.Test.YtjfkaebikmnnaaaBase
namespace Go.Proofs.Ytjfkaebikmnnaaa
set_option linter.unusedSimpArgs false
set_option linter.unusedVariables false

structure RV where
  num : Int
  par : Int
  src : List UInt8
  sty : List UInt8
  tre : List UInt8
  pag : Int
  deriving DecidableEq
structure RV.Ok (r : RV) : Prop where
  num : -9223372036854775808 ≤ r.num ∧ r.num ≤ 9223372036854775807
  par : -9223372036854775808 ≤ r.par ∧ r.par ≤ 9223372036854775807
  src : r.src.length = 32
  sty : r.sty.length = 32
  tre : r.tre.length = 32
  pag : -9223372036854775808 ≤ r.pag ∧ r.pag ≤ 9223372036854775807
def RV.cells (r : RV) : List Value := .int .i64 r.num :: .int .i64 r.par :: (bvs r.src ++ (bvs r.sty ++ (bvs r.tre ++ [.int .i64 r.pag])))
def rvv (r : RV) : Value := .agg r.cells.toArray
theorem RV.Ok.len {r : RV} (h : r.Ok) : r.cells.length = 99 := by simp [RV.cells, bvs_len, h.src, h.sty, h.tre]
def RV.good (r : RV) : Bool := decide (1 ≤ r.num ∧ r.num ≤ 65535 ∧ 0 ≤ r.par ∧ r.par < r.num ∧ 0 ≤ r.pag ∧ r.pag ≤ 255)
def RV.head (r : RV) : List UInt8 := [u8 (r.num / 256), u8 r.num, u8 (r.par / 256), u8 r.par, u8 r.pag]
def RV.bytes (r : RV) : List UInt8 := r.head ++ (r.src ++ (r.sty ++ r.tre))
theorem RV.Ok.bytes {r : RV} (h : r.Ok) : r.bytes.length = 101 := by simp [RV.bytes, RV.head, h.src, h.sty, h.tre]
def RV.enc (r : RV) : List UInt8 := if r.good then r.bytes else []
def erF (b : Bool) : Int := if b then 0 else 11
theorem good_iff (r : RV) : r.good = true ↔ 1 ≤ r.num ∧ r.num ≤ 65535 ∧ 0 ≤ r.par ∧ r.par < r.num ∧ 0 ≤ r.pag ∧ r.pag ≤ 255 := by unfold RV.good; simp
def at8 (b : List UInt8) (i : Nat) : UInt8 := b[i]?.getD 0
def n16 (b : List UInt8) (i : Nat) : Nat := (at8 b i).toNat * 256 + (at8 b (i + 1)).toNat
theorem n16_lt (b : List UInt8) (i : Nat) : n16 b i < 65536 := by
  have h1 := (at8 b i).toNat_lt
  have h2 := (at8 b (i + 1)).toNat_lt
  unfold n16; omega
def decR (b : List UInt8) : RV := ⟨n16 b 0, n16 b 2, (b.drop 5).take 32, (b.drop 37).take 32, (b.drop 69).take 32, (at8 b 4).toNat⟩
def rv0 : RV := ⟨0, 0, List.replicate 32 0, List.replicate 32 0, List.replicate 32 0, 0⟩
theorem rv0_ok : rv0.Ok := ⟨by simp [rv0], by simp [rv0], by simp [rv0], by simp [rv0], by simp [rv0], by simp [rv0]⟩
theorem decR_ok {b : List UInt8} (h : b.length = 101) : (decR b).Ok := by
  have h1 := n16_lt b 0
  have h2 := n16_lt b 2
  have h3 := (at8 b 4).toNat_lt
  refine ⟨?_, ?_, ?_, ?_, ?_, ?_⟩
  · show -9223372036854775808 ≤ ((n16 b 0 : Nat) : Int) ∧ ((n16 b 0 : Nat) : Int) ≤ 9223372036854775807
    omega
  · show -9223372036854775808 ≤ ((n16 b 2 : Nat) : Int) ∧ ((n16 b 2 : Nat) : Int) ≤ 9223372036854775807
    omega
  · show ((b.drop 5).take 32).length = 32
    simp [h]
  · show ((b.drop 37).take 32).length = 32
    simp [h]
  · show ((b.drop 69).take 32).length = 32
    simp [h]
  · show -9223372036854775808 ≤ (((at8 b 4).toNat : Nat) : Int) ∧ (((at8 b 4).toNat : Nat) : Int) ≤ 9223372036854775807
    omega
def isR (b : List UInt8) : Bool := decide (b.length = 101) && (decR b).good
def rvOf (b : List UInt8) : RV := if isR b then decR b else rv0
theorem rvOf_ok (b : List UInt8) : (rvOf b).Ok := by
  unfold rvOf
  split
  · rename_i h
    unfold isR at h
    simp only [Bool.and_eq_true, decide_eq_true_eq] at h
    exact decR_ok h.1
  · exact rv0_ok

/-! ### bytes of numbers -/
theorem at8_cons0 (x : UInt8) (l : List UInt8) : at8 (x :: l) 0 = x := rfl
theorem at8_cons (x : UInt8) (l : List UInt8) (i : Nat) : at8 (x :: l) (i + 1) = at8 l i := by unfold at8; rw [List.getElem?_cons_succ]
theorem n16_cons (x : UInt8) (l : List UInt8) (i : Nat) : n16 (x :: l) (i + 1) = n16 l i := by unfold n16; rw [at8_cons, at8_cons]
theorem n16_u8 {z : Int} (h0 : 0 ≤ z) (h1 : z ≤ 65535) (l : List UInt8) : ((n16 (u8 (z / 256) :: u8 z :: l) 0 : Nat) : Int) = z := by
  unfold n16
  rw [at8_cons0, at8_cons, at8_cons0]
  have a := u8_toNat (z / 256)
  have b := u8_toNat z
  omega
theorem u8_byte (x : UInt8) : u8 (x.toNat : Int) = x := by
  apply UInt8.toNat.inj
  have := u8_toNat (x.toNat : Int)
  have := x.toNat_lt
  omega
theorem u8_hi (x y : UInt8) : u8 (((x.toNat * 256 + y.toNat : Nat) : Int) / 256) = x := by
  apply UInt8.toNat.inj
  have := u8_toNat (((x.toNat * 256 + y.toNat : Nat) : Int) / 256)
  have := x.toNat_lt
  have := y.toNat_lt
  omega
theorem u8_lo (x y : UInt8) : u8 ((x.toNat * 256 + y.toNat : Nat) : Int) = y := by
  apply UInt8.toNat.inj
  have := u8_toNat ((x.toNat * 256 + y.toNat : Nat) : Int)
  have := x.toNat_lt
  have := y.toNat_lt
  omega
/-- what is decoded of what was encoded is it -/
theorem dec_bytes {r : RV} (h : r.Ok) (hg : r.good = true) : decR r.bytes = r := by
  obtain ⟨g1, g2, g3, g4, g5, g6⟩ := (good_iff r).1 hg
  obtain ⟨num, par, src, sty, tre, pag⟩ := r
  have hs := h.src
  have ht := h.sty
  have hu := h.tre
  simp only at hs ht hu g1 g2 g3 g4 g5 g6
  simp only [RV.bytes, RV.head, List.cons_append, List.nil_append]
  unfold decR
  have e0 := n16_u8 (z := num) (by omega) (by omega) (u8 (par / 256) :: u8 par :: u8 pag :: (src ++ (sty ++ tre)))
  have e2 := n16_u8 (z := par) (by omega) (by omega) (u8 pag :: (src ++ (sty ++ tre)))
  have e4 := u8_toNat pag
  rw [RV.mk.injEq]
  refine ⟨e0, ?_, ?_, ?_, ?_, ?_⟩
  · rw [n16_cons, n16_cons]; exact e2
  · simp only [List.drop_succ_cons, List.drop_zero, ← hs, List.take_left']
  · rw [show (37 : Nat) = 5 + src.length by omega, ← List.drop_drop]
    simp only [List.drop_succ_cons, List.drop_zero, List.drop_left, ← ht, List.take_left']
  · rw [show (69 : Nat) = 5 + (src.length + sty.length) by omega, ← List.drop_drop, ← List.drop_drop]
    simp only [List.drop_succ_cons, List.drop_zero, List.drop_left]
    exact List.take_of_length_le (by omega)
  · show (((at8 _ 4).toNat : Nat) : Int) = pag
    rw [at8_cons, at8_cons, at8_cons, at8_cons, at8_cons0]
    omega
theorem isR_bytes {r : RV} (h : r.Ok) (hg : r.good = true) : isR r.bytes = true := by
  unfold isR
  rw [dec_bytes h hg, hg, h.bytes]
  rfl
/-- the bytes of what was decoded are they -/
theorem bytes_dec {b : List UInt8} (h : b.length = 101) : (decR b).bytes = b := by
  match b, h with
  | b0 :: b1 :: b2 :: b3 :: b4 :: r, h =>
    simp only [List.length_cons] at h
    simp only [decR, RV.bytes, RV.head, n16, at8_cons0, at8_cons, List.drop_succ_cons, List.drop_zero, List.cons_append, List.nil_append, u8_hi, u8_lo, u8_byte]
    congr 5
    rw [List.take_of_length_le (l := r.drop 64) (by rw [List.length_drop]; omega)]
    have e : r.drop 32 = (r.drop 32).take 32 ++ r.drop 64 := by rw [show (64 : Nat) = 32 + 32 by rfl, ← List.drop_drop, List.take_append_drop]
    rw [← e, List.take_append_drop]

/-! ### logs -/
structure LE where
  num : Int
  key : List UInt8
  deriving DecidableEq
structure LE.Ok (x : LE) : Prop where
  num : -9223372036854775808 ≤ x.num ∧ x.num ≤ 9223372036854775807
  key : x.key.length = 32
def LE.cells (x : LE) : List Value := .int .i64 x.num :: bvs x.key
theorem LE.Ok.len {x : LE} (h : x.Ok) : x.cells.length = 33 := by simp [LE.cells, bvs_len, h.key]
def lev (x : LE) : Value := .agg x.cells.toArray
def rise (a next : Int) : List LE → Bool
  | [] => true
  | x :: l => decide (a < x.num ∧ x.num < next) && rise x.num next l
def goodL (next : Int) (l : List LE) : Bool := decide (1 ≤ next ∧ next ≤ 65535 ∧ l.length ≤ 8) && rise 0 next l
def LE.bytes (x : LE) : List UInt8 := u8 (x.num / 256) :: u8 x.num :: x.key
def headL (next : Int) (k : Nat) : List UInt8 := [u8 (next / 256), u8 next, u8 (k : Int)]
def bytesL (next : Int) (l : List LE) : List UInt8 := headL next l.length ++ l.flatMap LE.bytes
def encL (next : Int) (l : List LE) : List UInt8 := if goodL next l then bytesL next l else []
def decE (b : List UInt8) (k : Nat) : LE := ⟨n16 b (3 + k * 34), (b.drop (3 + k * 34 + 2)).take 32⟩
def decL (b : List UInt8) : List LE := (List.range (at8 b 2).toNat).map (decE b)
def isL (b : List UInt8) : Bool := decide (3 ≤ b.length ∧ b.length = 3 + (at8 b 2).toNat * 34) && goodL (n16 b 0) (decL b)
def nextOf (b : List UInt8) : Int := if isL b then (n16 b 0 : Nat) else 0
def logOf (b : List UInt8) : List LE := if isL b then decL b else []
def findL (l : List LE) (z : Int) : Nat := l.findIdx (fun x => x.num == z)
end Go.Proofs.Ytjfkaebikmnnaaa
