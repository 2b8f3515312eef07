/- A superblock's block, read again, is it; the newest one on a disk: in plain Lean. -/
import Derived.Test.YtnkdbkgihemjnaaSupPlain
namespace Go.Proofs.Ytnkdbkgihemjnaa
set_option linter.unusedSimpArgs false
set_option linter.unusedVariables false

theorem good_nums {s : SP} (h : s.good = true) : 1 ≤ s.gen ∧ s.gen < 1073741824 ∧ 16 ≤ s.blocks ∧ s.blocks ≤ 128 ∧ (s.root = 0 ∨ (2 ≤ s.root ∧ s.root < s.blocks)) := by
  unfold SP.good at h
  have h1 := (Bool.and_eq_true _ _ ▸ h).1
  simpa [SP.nums] using h1
theorem u8n (z : Int) : ((u8 z).toNat : Int) = z % 256 := u8_toNat z
def hd7 (s : SP) : List UInt8 := [83, u8 ((s.gen : Int) / 2 ^ 24), u8 ((s.gen : Int) / 2 ^ 16), u8 ((s.gen : Int) / 2 ^ 8), u8 (s.gen : Int), u8 s.blocks, u8 s.root]
theorem enc_form {s : SP} (h : s.Ok) (hg : s.good = true) : ∃ r, s.enc = hd7 s ++ (s.log ++ (s.used ++ r)) ∧ r.length = 73 ∧ r.take 4 = first4 s.bytes ∧ r.drop 4 = List.replicate 69 0 := by
  refine ⟨first4 s.bytes ++ List.replicate 69 0, ?_, ?_, ?_, ?_⟩
  · unfold SP.enc
    rw [hg, if_pos rfl]
    unfold sealB pad
    rw [List.length_append, h.bytes, first4_len]
    show ((hd7 s ++ s.log ++ s.used) ++ first4 s.bytes) ++ List.replicate 69 0 = _
    simp only [List.append_assoc]
  · rw [List.length_append, first4_len, List.length_replicate]
  · rw [← first4_len s.bytes, List.take_left]
  · rw [← first4_len s.bytes, List.drop_left]
theorem dec_enc {s : SP} (h : s.Ok) (hg : s.good = true) : decP s.enc = s := by
  obtain ⟨r, he, -, -, -⟩ := enc_form h hg
  obtain ⟨n1, n2, n3, n4, n5⟩ := good_nums hg
  obtain ⟨gen, blocks, root, log, used⟩ := s
  simp only at n1 n2 n3 n4 n5
  have hl := h.log
  have hu := h.used
  simp only at hl hu
  rw [he]
  unfold decP at8 hd7
  simp only [List.cons_append, List.nil_append, List.getElem?_cons_succ, List.getElem?_cons_zero, Option.getD_some, List.drop_succ_cons, List.drop_zero]
  have e1 := u8n ((gen : Int) / 2 ^ 24)
  have e2 := u8n ((gen : Int) / 2 ^ 16)
  have e3 := u8n ((gen : Int) / 2 ^ 8)
  have e4 := u8n (gen : Int)
  have e5 := u8n blocks
  have e6 := u8n root
  rw [show (log ++ (used ++ r)).take 32 = log from by rw [← hl, List.take_left], show ((log ++ (used ++ r)).drop 32).take 16 = used from by rw [← hl, List.drop_left, ← hu, List.take_left]]
  rw [e5, e6]
  have g : (u8 ((gen : Int) / 2 ^ 24)).toNat * 16777216 + (u8 ((gen : Int) / 2 ^ 16)).toNat * 65536 + (u8 ((gen : Int) / 2 ^ 8)).toNat * 256 + (u8 (gen : Int)).toNat = gen := by omega
  have b : blocks % 256 = blocks := by omega
  have c : root % 256 = root := by omega
  rw [g, b, c]
theorem isS_enc {s : SP} (h : s.Ok) (hg : s.good = true) : isS s.enc = true := by
  unfold isS
  rw [dec_enc h hg, hg]
  simp
theorem isS_good {b : Blk} (h : isS b = true) : (decP b).good = true ∧ (decP b).enc = b := by
  unfold isS at h
  simpa using h
/-- the zero block is none's -/
theorem isS_z : isS zblk = false := by decide +kernel
theorem at1_ge (d : DS) (b : SP) (k : Nat) : b.gen ≤ (d.at1 b k).gen := by
  unfold DS.at1; split
  · rename_i h; omega
  · exact Nat.le_refl _
theorem at1_pos {d : DS} {k : Nat} (b : SP) (h : d.isAt k = true) : 1 ≤ (d.at1 b k).gen := by
  have hg : (decP (d.read (k : Int))).good = true := by
    unfold DS.isAt at h
    simp only [Bool.and_eq_true] at h
    exact (isS_good h.1.1).1
  have := (good_nums hg).1
  unfold DS.at1
  by_cases hb : b.gen < (decP (d.read (k : Int))).gen
  · rw [if_pos ⟨h, hb⟩]; exact this
  · rw [if_neg (fun e => hb e.2)]; omega
theorem best_gen0 (d : DS) : (d.isAt 0 = false ∧ d.isAt 1 = false) ∨ 1 ≤ d.best.gen := by
  by_cases h0 : d.isAt 0 = true
  · right
    have := at1_pos sp0 h0
    have := at1_ge d (d.at1 sp0 0) 1
    unfold DS.best; omega
  · by_cases h1 : d.isAt 1 = true
    · right
      exact at1_pos _ h1
    · left
      exact ⟨by simpa using h0, by simpa using h1⟩
end Go.Proofs.Ytnkdbkgihemjnaa
