/- The newest superblock on a disk, by its first two blocks; writing one on a disk that is whole: in plain Lean. -/
import Derived.Test.YtnkdbkgihemjnaaSupBack
namespace Go.Proofs.Ytnkdbkgihemjnaa
set_option linter.unusedSimpArgs false
set_option linter.unusedVariables false

def isB (n k : Nat) (b : Blk) : Bool := isS b && decide ((decP b).gen % 2 = k) && decide ((decP b).blocks = (n : Int))
theorem isAt_B (d : DS) (k : Nat) : d.isAt k = isB d.bl.length k (d.read (k : Int)) := rfl
def one0 (n : Nat) (b0 : Blk) : SP := if isB n 0 b0 = true ∧ sp0.gen < (decP b0).gen then decP b0 else sp0
def two (n : Nat) (b0 b1 : Blk) : SP := if isB n 1 b1 = true ∧ (one0 n b0).gen < (decP b1).gen then decP b1 else one0 n b0
theorem best_two (d : DS) : d.best = two d.bl.length (d.read ((0 : Nat) : Int)) (d.read ((1 : Nat) : Int)) := by
  unfold DS.best DS.at1 two one0
  rw [isAt_B, isAt_B]
theorem isB_gen {n k : Nat} {b : Blk} (h : isB n k b = true) : 1 ≤ (decP b).gen := by
  unfold isB at h
  simp only [Bool.and_eq_true] at h
  exact (good_nums (isS_good h.1.1).1).1
theorem isB_enc {s : SP} (h : s.Ok) (hg : s.good = true) {n k : Nat} (hn : s.blocks = (n : Int)) (hk : s.gen % 2 = k) : isB n k s.enc = true := by
  unfold isB
  rw [isS_enc h hg, dec_enc h hg]
  simp [hn, hk]
theorem isB_z (n k : Nat) : isB n k zblk = false := by unfold isB; rw [isS_z]; rfl
theorem sp0_gen : sp0.gen = 0 := rfl
theorem one0_yes {n : Nat} {b0 : Blk} (h : isB n 0 b0 = true) : one0 n b0 = decP b0 := by
  have := isB_gen h
  unfold one0
  rw [if_pos ⟨h, by rw [sp0_gen]; omega⟩]
theorem one0_no {n : Nat} {b0 : Blk} (h : isB n 0 b0 = false) : one0 n b0 = sp0 := by
  unfold one0; rw [if_neg (fun e => by rw [h] at e; cases e.1)]
theorem two_no {n : Nat} {b0 b1 : Blk} (h : isB n 1 b1 = false) : two n b0 b1 = one0 n b0 := by
  unfold two; rw [if_neg (fun e => by rw [h] at e; cases e.1)]
theorem two_yes {n : Nat} {b0 b1 : Blk} (h : isB n 1 b1 = true) (hg : (one0 n b0).gen < (decP b1).gen) : two n b0 b1 = decP b1 := by
  unfold two; rw [if_pos ⟨h, hg⟩]
theorem two_old {n : Nat} {b0 b1 : Blk} (hg : ¬ (one0 n b0).gen < (decP b1).gen) : two n b0 b1 = one0 n b0 := by
  unfold two; rw [if_neg (fun e => hg e.2)]

/-! ### a disk that is whole: no fuse, nothing loose -/
structure DS.Fresh (d : DS) : Prop where
  down : d.down = false
  fuse : d.fuse = -1
  lo : d.lo = []
theorem fresh_new (n : Nat) : (DS.new n).Fresh := ⟨rfl, rfl, rfl⟩
theorem DS.Fresh.stops {d : DS} (h : d.Fresh) : d.stops = false := by unfold DS.stops; rw [h.down, h.fuse]; rfl
theorem DS.Fresh.read {d : DS} (h : d.Fresh) {k : Nat} (hk : k < d.bl.length) : d.read (k : Int) = d.blk k := by
  unfold DS.read
  rw [DS.inB_iff.2 ⟨by omega, by omega⟩, h.down, h.lo]
  rfl
theorem DS.Fresh.write {d : DS} (h : d.Fresh) {k : Nat} (hk : k < d.bl.length) (b : Blk) : d.writeE (k : Int) = 0 ∧ d.write (k : Int) b = ⟨d.bl, [(k, b)], -1, d.done + 1, false⟩ := by
  have hi : d.inB (k : Int) = true := DS.inB_iff.2 ⟨by omega, by omega⟩
  unfold DS.writeE DS.write DS.passE
  rw [hi, h.stops]
  refine ⟨rfl, ?_⟩
  simp [DS.gone, h.fuse, h.lo]
theorem DS.Fresh.put {d : DS} (h : d.Fresh) (h2 : 2 ≤ d.bl.length) {s : SP} (hg : s.good = true) (hb : s.blocks = (d.bl.length : Int)) :
    d.putE s = 0 ∧ d.putS s = ⟨d.bl.set (s.gen % 2) s.enc, [], -1, d.done + 2, false⟩ := by
  obtain ⟨w1, w2⟩ := h.write (k := s.gen % 2) (by omega) s.enc
  unfold DS.putE DS.putS
  refine ⟨?_, ?_⟩
  · rw [if_pos ⟨hg, hb⟩, if_pos w1, w2]; rfl
  · rw [if_pos ⟨hg, hb⟩, if_pos w1, w2]; rfl
theorem fresh_mk (bl : List Blk) (n : Nat) : (⟨bl, [], -1, n, false⟩ : DS).Fresh := ⟨rfl, rfl, rfl⟩
theorem newest_fresh {d : DS} (h : d.Fresh) (h2 : 2 ≤ d.bl.length) : d.newest = two d.bl.length (d.blk 0) (d.blk 1) ∧ d.newestE = if (two d.bl.length (d.blk 0) (d.blk 1)).gen = 0 then 13 else 0 := by
  have e : d.best = two d.bl.length (d.blk 0) (d.blk 1) := by rw [best_two, h.read (by omega), h.read (by omega)]
  unfold DS.newest DS.newestE
  rw [e, h.down]
  generalize two _ _ _ = b
  simp
theorem at1_ok {d : DS} (h : d.Ok) {b : SP} (hb : b.Ok) (k : Nat) : (d.at1 b k).Ok := by
  unfold DS.at1
  split
  · exact decP_ok (h.read _)
  · exact hb
theorem newest_ok {d : DS} (h : d.Ok) : d.newest.Ok := by
  unfold DS.newest
  split
  · exact sp0_ok
  · exact at1_ok h (at1_ok h sp0_ok 0) 1
theorem blk_set_same {d : List Blk} {k : Nat} (hk : k < d.length) (b : Blk) : (d.set k b)[k]?.getD zblk = b := by
  rw [List.getElem?_set_self hk]; rfl
theorem blk_set_other {d : List Blk} {k j : Nat} (hk : k ≠ j) (b : Blk) : (d.set k b)[j]?.getD zblk = d[j]?.getD zblk := by
  rw [List.getElem?_set_ne hk]

/-! ### the words of the test -/
def sA : SP := ⟨258, 16, 5, 7 :: List.replicate 31 0, 39 :: List.replicate 15 0⟩
def sB : SP := ⟨259, 16, 5, 7 :: List.replicate 31 0, 39 :: List.replicate 15 0⟩
theorem sA_ok : sA.Ok := ⟨by decide, by decide, by decide, rfl, rfl⟩
theorem sB_ok : sB.Ok := ⟨by decide, by decide, by decide, rfl, rfl⟩
theorem sA_good : sA.good = true := by decide +kernel
theorem sB_good : sB.good = true := by decide +kernel
def zb16 : List Blk := List.replicate 16 zblk
def wA : DS := (DS.new 16).putS sA
def wB : DS := wA.putS sB
def wC : DS := wB.write 1 zblk
theorem new_len : (DS.new 16).bl.length = 16 := rfl
theorem wA_is : (DS.new 16).putE sA = 0 ∧ wA = ⟨zb16.set 0 sA.enc, [], -1, 2, false⟩ := (fresh_new 16).put (by decide) sA_good rfl
theorem wB_is : wA.putE sB = 0 ∧ wB = ⟨(zb16.set 0 sA.enc).set 1 sB.enc, [], -1, 4, false⟩ := by
  have hf : wA.Fresh := by rw [wA_is.2]; exact fresh_mk _ _
  have hl : wA.bl.length = 16 := by rw [wA_is.2]; rfl
  have := hf.put (s := sB) (by omega) sB_good (by rw [hl]; rfl)
  unfold wB
  rw [this.2]
  refine ⟨this.1, ?_⟩
  rw [wA_is.2]; rfl
theorem wC_is : wB.writeE 1 = 0 ∧ wC = ⟨(zb16.set 0 sA.enc).set 1 sB.enc, [(1, zblk)], -1, 5, false⟩ := by
  have hf : wB.Fresh := by rw [wB_is.2]; exact fresh_mk _ _
  have hl : wB.bl.length = 16 := by rw [wB_is.2]; rfl
  have := hf.write (k := 1) (by omega) zblk
  refine ⟨this.1, ?_⟩
  unfold wC
  have e := this.2
  rw [show ((1 : Nat) : Int) = 1 from rfl] at e
  rw [e, wB_is.2]
theorem new_newest : (DS.new 16).newestE = 13 := by
  rw [(newest_fresh (fresh_new 16) (by decide)).2]
  have h0 : (DS.new 16).blk 0 = zblk := rfl
  have h1 : (DS.new 16).blk 1 = zblk := rfl
  rw [h0, h1, two_no (isB_z _ _), one0_no (isB_z _ _)]
  rfl
theorem wB_newest : wB.newest = sB ∧ wB.newestE = 0 := by
  have hf : wB.Fresh := by rw [wB_is.2]; exact fresh_mk _ _
  have hl : wB.bl.length = 16 := by rw [wB_is.2]; rfl
  have h0 : wB.blk 0 = sA.enc := by unfold DS.blk; rw [wB_is.2]; show ((zb16.set 0 sA.enc).set 1 sB.enc)[0]?.getD zblk = _; rw [blk_set_other (by decide), blk_set_same (by decide)]
  have h1 : wB.blk 1 = sB.enc := by unfold DS.blk; rw [wB_is.2]; show ((zb16.set 0 sA.enc).set 1 sB.enc)[1]?.getD zblk = _; rw [blk_set_same (by decide)]
  have a0 : isB 16 0 sA.enc = true := isB_enc sA_ok sA_good rfl rfl
  have a1 : isB 16 1 sB.enc = true := isB_enc sB_ok sB_good rfl rfl
  have e : two 16 sA.enc sB.enc = sB := by
    rw [two_yes a1 (by rw [one0_yes a0, dec_enc sA_ok sA_good, dec_enc sB_ok sB_good]; decide), dec_enc sB_ok sB_good]
  obtain ⟨n1, n2⟩ := newest_fresh hf (by omega)
  rw [hl, h0, h1, e] at n1 n2
  exact ⟨n1, n2⟩
theorem read_one {bl : List Blk} {j : Nat} {b : Blk} {f : Int} {n k : Nat} (hk : k < bl.length) : (⟨bl, [(j, b)], f, n, false⟩ : DS).read (k : Int) = if j = k then b else bl[k]?.getD zblk := by
  have hi : (⟨bl, [(j, b)], f, n, false⟩ : DS).inB (k : Int) = true := DS.inB_iff.2 ⟨by omega, by show (k : Int) < (bl.length : Int); omega⟩
  unfold DS.read
  rw [if_pos hi]
  simp [lastOf', DS.blk]
theorem wC_newest : wC.newest = sA ∧ wC.newestE = 0 := by
  have h0 : wC.read ((0 : Nat) : Int) = sA.enc := by
    rw [wC_is.2, read_one (by simp [zb16]), if_neg (by decide), blk_set_other (by decide), blk_set_same (by decide)]
  have h1 : wC.read ((1 : Nat) : Int) = zblk := by
    rw [wC_is.2, read_one (by simp [zb16]), if_pos rfl]
  have hl : wC.bl.length = 16 := by rw [wC_is.2]; rfl
  have hdn : wC.down = false := by rw [wC_is.2]
  have a0 : isB 16 0 sA.enc = true := isB_enc sA_ok sA_good rfl rfl
  have e : wC.best = sA := by
    rw [best_two, h0, h1, hl, two_no (isB_z _ _), one0_yes a0, dec_enc sA_ok sA_good]
  unfold DS.newest DS.newestE
  rw [e, hdn]
  exact ⟨rfl, rfl⟩
theorem sA_bytes : ∃ r, sA.enc = [83, 0, 0, 1, 2, 16, 5] ++ (7 :: List.replicate 31 0) ++ (39 :: List.replicate 15 0) ++ r := by
  obtain ⟨r, h, -⟩ := enc_form sA_ok sA_good
  refine ⟨r, ?_⟩
  rw [h, show hd7 sA = [83, 0, 0, 1, 2, 16, 5] from by decide]
  simp only [List.append_assoc]
  rfl
theorem sA_at : sA.enc[0]? = some 83 ∧ sA.enc[3]? = some 1 ∧ sA.enc[4]? = some 2 ∧ sA.enc[5]? = some 16 ∧ sA.enc[6]? = some 5 ∧ sA.enc[7]? = some 7 ∧ sA.enc[39]? = some 39 := by
  obtain ⟨r, h⟩ := sA_bytes
  rw [h]
  exact ⟨rfl, rfl, rfl, rfl, rfl, rfl, rfl⟩
end Go.Proofs.Ytnkdbkgihemjnaa
