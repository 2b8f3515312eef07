/- A superblock in plain Lean: what may be, its bytes, its block, the superblock of a block; no program in sight. -/
import Derived.Test.YtnkdbkgihemjnaaShaSmall
import Derived.Test.YtnkdbkgihemjnaaBmpCnt
import Derived.Test.YtnkdbkgihemjnaaDskPlain
namespace Go.Proofs.Ytnkdbkgihemjnaa
set_option linter.unusedSimpArgs false
set_option linter.unusedVariables false

structure SP where
  gen : Nat
  blocks : Int
  root : Int
  log : List UInt8
  used : List UInt8
structure SP.Ok (s : SP) : Prop where
  gen : s.gen < 4294967296
  bl : -9223372036854775808 ≤ s.blocks ∧ s.blocks ≤ 9223372036854775807
  rt : -9223372036854775808 ≤ s.root ∧ s.root ≤ 9223372036854775807
  log : s.log.length = 32
  used : s.used.length = 16
def SP.cells (s : SP) : List Value := .int .u32 (s.gen : Int) :: .int .i64 s.blocks :: .int .i64 s.root :: (bvs s.log ++ bvs s.used)
def spv (s : SP) : Value := .agg s.cells.toArray
theorem SP.Ok.len {s : SP} (h : s.Ok) : s.cells.length = 51 := by simp [SP.cells, bvs_len, h.log, h.used]
def SP.nums (s : SP) : Bool := decide (1 ≤ s.gen ∧ s.gen < 1073741824 ∧ 16 ≤ s.blocks ∧ s.blocks ≤ 128 ∧ (s.root = 0 ∨ (2 ≤ s.root ∧ s.root < s.blocks)))
def SP.bits (s : SP) : Bool := hasB s.used 0 && hasB s.used 1 && decide (cntTo s.used 128 = cntTo s.used (min s.blocks 128).toNat)
def SP.good (s : SP) : Bool := s.nums && s.bits
def SP.bytes (s : SP) : List UInt8 := [83, u8 ((s.gen : Int) / 2 ^ 24), u8 ((s.gen : Int) / 2 ^ 16), u8 ((s.gen : Int) / 2 ^ 8), u8 (s.gen : Int), u8 s.blocks, u8 s.root] ++ s.log ++ s.used
theorem SP.Ok.bytes {s : SP} (h : s.Ok) : s.bytes.length = 55 := by simp [SP.bytes, h.log, h.used]
def pad (l : List UInt8) : Blk := l ++ List.replicate (128 - l.length) 0
theorem pad_len {l : List UInt8} (h : l.length ≤ 128) : (pad l).length = 128 := by simp [pad]; omega
def sealB (l : List UInt8) : Blk := pad (l ++ first4 l)
theorem sealB_len {l : List UInt8} (h : l.length ≤ 124) : (sealB l).length = 128 := pad_len (by rw [List.length_append, first4_len]; omega)
def SP.enc (s : SP) : Blk := if s.good then sealB s.bytes else zblk
def SP.encE (s : SP) : Int := if s.good then 0 else 11
theorem SP.Ok.enc {s : SP} (h : s.Ok) : s.enc.length = 128 := by
  unfold SP.enc
  split
  · exact sealB_len (by rw [h.bytes]; omega)
  · simp [zblk]
def at8 (b : Blk) (i : Nat) : UInt8 := b[i]?.getD 0
def decP (b : Blk) : SP := ⟨(at8 b 1).toNat * 16777216 + (at8 b 2).toNat * 65536 + (at8 b 3).toNat * 256 + (at8 b 4).toNat, (at8 b 5).toNat, (at8 b 6).toNat, (b.drop 7).take 32, (b.drop 39).take 16⟩
theorem decP_ok {b : Blk} (h : b.length = 128) : (decP b).Ok := by
  have h1 := (at8 b 1).toNat_lt
  have h2 := (at8 b 2).toNat_lt
  have h3 := (at8 b 3).toNat_lt
  have h4 := (at8 b 4).toNat_lt
  have h5 := (at8 b 5).toNat_lt
  have h6 := (at8 b 6).toNat_lt
  refine ⟨?_, ?_, ?_, ?_, ?_⟩
  · show (at8 b 1).toNat * 16777216 + (at8 b 2).toNat * 65536 + (at8 b 3).toNat * 256 + (at8 b 4).toNat < 4294967296
    omega
  · show -9223372036854775808 ≤ (((at8 b 5).toNat : Nat) : Int) ∧ (((at8 b 5).toNat : Nat) : Int) ≤ 9223372036854775807
    omega
  · show -9223372036854775808 ≤ (((at8 b 6).toNat : Nat) : Int) ∧ (((at8 b 6).toNat : Nat) : Int) ≤ 9223372036854775807
    omega
  · show ((b.drop 7).take 32).length = 32
    simp [h]
  · show ((b.drop 39).take 16).length = 16
    simp [h]
def sp0 : SP := ⟨0, 0, 0, List.replicate 32 0, List.replicate 16 0⟩
theorem sp0_ok : sp0.Ok := ⟨by simp [sp0], by simp [sp0], by simp [sp0], by simp [sp0], by simp [sp0]⟩
def isS (b : Blk) : Bool := (decP b).good && ((decP b).enc == b)
def decS (b : Blk) : SP := if isS b then decP b else sp0
def decE (b : Blk) : Int := if isS b then 0 else 11
theorem decS_ok {b : Blk} (h : b.length = 128) : (decS b).Ok := by
  unfold decS
  split
  · exact decP_ok h
  · exact sp0_ok

/-! ### on a disk -/
def DS.putE (d : DS) (s : SP) : Int :=
  if s.good ∧ s.blocks = d.bl.length then (if d.writeE ((s.gen % 2 : Nat) : Int) = 0 then (d.write ((s.gen % 2 : Nat) : Int) s.enc).passE else d.writeE ((s.gen % 2 : Nat) : Int)) else 1
def DS.putS (d : DS) (s : SP) : DS :=
  if s.good ∧ s.blocks = d.bl.length then (if d.writeE ((s.gen % 2 : Nat) : Int) = 0 then (d.write ((s.gen % 2 : Nat) : Int) s.enc).sync else d.write ((s.gen % 2 : Nat) : Int) s.enc) else d
/-- is the superblock of block k one? -/
def DS.isAt (d : DS) (k : Nat) : Bool := isS (d.read (k : Int)) && decide ((decP (d.read (k : Int))).gen % 2 = k) && decide ((decP (d.read (k : Int))).blocks = d.bl.length)
def DS.at1 (d : DS) (best : SP) (k : Nat) : SP := if d.isAt k ∧ best.gen < (decP (d.read (k : Int))).gen then decP (d.read (k : Int)) else best
def DS.best (d : DS) : SP := d.at1 (d.at1 sp0 0) 1
def DS.newest (d : DS) : SP := if d.down then sp0 else d.best
def DS.newestE (d : DS) : Int := if d.down then 12 else if d.best.gen = 0 then 13 else 0
end Go.Proofs.Ytnkdbkgihemjnaa
