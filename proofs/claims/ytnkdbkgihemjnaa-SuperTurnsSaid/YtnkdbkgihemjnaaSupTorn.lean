/- A Write of the next generation that is cut anywhere: what is left of it, in plain Lean. -/
import Derived.Test.YtnkdbkgihemjnaaSupBest
namespace Go.Proofs.Ytnkdbkgihemjnaa
set_option linter.unusedSimpArgs false
set_option linter.unusedVariables false

/-- the second half is zeros -/
def Tail0 (b : Blk) : Prop := b.length = 128 ∧ b.drop 64 = List.replicate 64 0
theorem tail0_z : Tail0 zblk := ⟨by unfold zblk; exact List.length_replicate, by unfold zblk; rw [List.drop_replicate]⟩
theorem tail0_enc {s : SP} (h : s.Ok) (hg : s.good = true) : Tail0 s.enc := by
  refine ⟨h.enc, ?_⟩
  obtain ⟨r, he, hr, -, hd⟩ := enc_form h hg
  have e : (hd7 s ++ (s.log ++ (s.used ++ r))).drop 64 = r.drop 9 := by
    rw [show (64 : Nat) = (hd7 s).length + (32 + (16 + 9)) from rfl, ← List.drop_drop, List.drop_left, ← h.log, ← List.drop_drop, List.drop_left, ← h.used, ← List.drop_drop, List.drop_left]
  rw [he, e, show (9 : Nat) = 4 + 5 from rfl, ← List.drop_drop, hd]
  rfl
theorem half_same {n : Nat} {b a : Blk} (hn : n = 64 ∨ n = 128) (hb : Tail0 b) (ha : Tail0 a) : halfOf n b a = b := by
  unfold halfOf
  rcases hn with rfl | rfl
  · rw [ha.2, ← hb.2, List.take_append_drop]
  · rw [List.take_of_length_le (by rw [hb.1]; omega), List.drop_of_length_le (by rw [ha.1]; omega), List.append_nil]

theorem torn_step {d : DS} (hf : d.Fresh) (h2 : 2 ≤ d.bl.length) {s : SP} (hs : s.Ok) (hg : s.good = true) (hb : s.blocks = (d.bl.length : Int)) (ht : Tail0 (d.blk (s.gen % 2))) (n : Int) (keep : List UInt8) (t : Int) :
    ∃ m, m ≤ d.done + 2 ∧ (((d.fuseTo n).putS s).crash keep t = ⟨d.bl, [], -1, m, false⟩ ∧ (d.fuseTo n).putE s ≠ 0 ∨ ((d.fuseTo n).putS s).crash keep t = ⟨d.bl.set (s.gen % 2) s.enc, [], -1, m, false⟩) := by
  obtain ⟨bl, lo, fu, dn, dw⟩ := d
  obtain ⟨hd, hfu, hl⟩ := hf
  simp only at hd hfu hl h2 hb
  subst hd hfu hl
  have hk : s.gen % 2 < bl.length := by omega
  obtain ⟨k, hk'⟩ : ∃ k, s.gen % 2 = k := ⟨_, rfl⟩
  rw [hk'] at hk ht ⊢
  have hgb : s.good = true ∧ s.blocks = (bl.length : Int) := ⟨hg, hb⟩
  have hE := tail0_enc hs hg
  obtain ⟨E, hEe⟩ : ∃ E, s.enc = E := ⟨_, rfl⟩
  rw [hEe] at hE ⊢
  obtain ⟨f, hfe⟩ : ∃ f, max n (-1) = f := ⟨_, rfl⟩
  have hf1 : -1 ≤ f := by omega
  have hd1 : (⟨bl, [], -1, dn, false⟩ : DS).fuseTo n = ⟨bl, [], f, dn, false⟩ := by unfold DS.fuseTo; rw [hfe]
  rw [hd1]
  have hin : (⟨bl, [], f, dn, false⟩ : DS).inB (k : Int) = true := DS.inB_iff.2 ⟨by omega, by show (k : Int) < (bl.length : Int); omega⟩
  unfold DS.putS DS.putE
  rw [if_pos hgb, if_pos hgb, hk', hEe]
  by_cases f0 : f = 0
  · subst f0
    have hw : (⟨bl, [], 0, dn, false⟩ : DS).write (k : Int) E = ⟨bl, [], 0, dn, true⟩ := by unfold DS.write; rw [if_pos hin]; rfl
    have hwe : (⟨bl, [], 0, dn, false⟩ : DS).writeE (k : Int) = 12 := by unfold DS.writeE; rw [if_pos hin]; rfl
    rw [hwe, hw]
    exact ⟨dn, by show dn ≤ dn + 2; omega, .inl ⟨rfl, by rw [if_neg (by decide)]; decide⟩⟩
  · have hst : (⟨bl, [], f, dn, false⟩ : DS).stops = false := by simp [DS.stops, f0]
    have hw : (⟨bl, [], f, dn, false⟩ : DS).write (k : Int) E = ⟨bl, [(k, E)], if 0 < f then f - 1 else f, dn + 1, false⟩ := by
      unfold DS.write; rw [if_pos hin, hst]; simp [DS.gone]
    have hwe : (⟨bl, [], f, dn, false⟩ : DS).writeE (k : Int) = 0 := by unfold DS.writeE; rw [if_pos hin]; unfold DS.passE; rw [hst]; rfl
    rw [hwe, if_pos rfl, if_pos rfl, hw]
    by_cases f1 : f = 1
    · subst f1
      refine ⟨dn + 1, by show dn + 1 ≤ dn + 2; omega, ?_⟩
      have hsy : (⟨bl, [(k, E)], if (0 : Int) < 1 then 1 - 1 else 1, dn + 1, false⟩ : DS).sync = ⟨bl, [(k, E)], 0, dn + 1, true⟩ := rfl
      rw [hsy]
      have hcr : (⟨bl, [(k, E)], 0, dn + 1, true⟩ : DS).crash keep t = ⟨crash1 keep t 0 bl (k, E), [], -1, dn + 1, false⟩ := rfl
      rw [hcr]
      unfold crash1
      split
      · right
        have hh : halfOf (sizeOf' t 0) E (bl[k]?.getD zblk) = E := half_same (by unfold sizeOf'; split; exact .inl rfl; exact .inr rfl) hE ht
        show (⟨bl.set k (halfOf (sizeOf' t 0) E (bl[k]?.getD zblk)), [], -1, dn + 1, false⟩ : DS) = _
        rw [hh]
      · left
        exact ⟨rfl, by show (12 : Int) ≠ 0; decide⟩
    · refine ⟨dn + 2, Nat.le_refl _, .inr ?_⟩
      have hst2 : (⟨bl, [(k, E)], if 0 < f then f - 1 else f, dn + 1, false⟩ : DS).stops = false := by
        unfold DS.stops
        simp only [Bool.false_or, decide_eq_false_iff_not]
        split <;> omega
      have hsy : (⟨bl, [(k, E)], if 0 < f then f - 1 else f, dn + 1, false⟩ : DS).sync = ⟨bl.set k E, [], if 0 < (if 0 < f then f - 1 else f) then (if 0 < f then f - 1 else f) - 1 else (if 0 < f then f - 1 else f), dn + 2, false⟩ := by
        unfold DS.sync
        rw [hst2]
        rfl
      rw [hsy]
      rfl

/-- what is so at each round's head: the newest one is L -/
structure Inv7 (d : DS) (L : SP) : Prop where
  fr : d.Fresh
  len : d.bl.length = 16
  ok : L.Ok
  good : L.good = true
  bl : L.blocks = 16
  at_ : d.blk (L.gen % 2) = L.enc
  old : isB 16 (1 - L.gen % 2) (d.blk (1 - L.gen % 2)) = true → (decP (d.blk (1 - L.gen % 2))).gen < L.gen
  t0 : Tail0 (d.blk 0)
  t1 : Tail0 (d.blk 1)
theorem Inv7.newest {d : DS} {L : SP} (h : Inv7 d L) : d.newest = L ∧ d.newestE = 0 := by
  have g0 := (good_nums h.good).1
  have ha : isB 16 (L.gen % 2) L.enc = true := isB_enc h.ok h.good h.bl rfl
  have hd := dec_enc h.ok h.good
  obtain ⟨n1, n2⟩ := newest_fresh h.fr (by rw [h.len]; omega)
  have e : two d.bl.length (d.blk 0) (d.blk 1) = L := by
    rw [h.len]
    have hat := h.at_
    have ho := h.old
    rcases Nat.mod_two_eq_zero_or_one L.gen with e | e
    · rw [e] at ha hat ho
      rw [hat]
      have h1 : one0 16 L.enc = L := by rw [one0_yes ha, hd]
      cases hb : isB 16 1 (d.blk 1)
      · rw [two_no hb, h1]
      · have := ho hb
        rw [two_old (by rw [h1]; exact Nat.not_lt.2 (Nat.le_of_lt this)), h1]
    · rw [e] at ha hat ho
      rw [hat, two_yes ha, hd]
      rw [hd]
      cases hb : isB 16 0 (d.blk 0)
      · rw [one0_no hb, sp0_gen]; omega
      · rw [one0_yes hb]; exact ho hb
  rw [e] at n1 n2
  exact ⟨n1, by rw [n2, if_neg (by omega)]⟩
/-- the next one: it, or the one ahead -/
theorem Inv7.next {d : DS} {L s : SP} (h : Inv7 d L) (hs : s.Ok) (hg : s.good = true) (hb : s.blocks = 16) (hn : s.gen = L.gen + 1) (n : Int) (keep : List UInt8) (t : Int) :
    ∃ N, Inv7 (((d.fuseTo n).putS s).crash keep t) N ∧ (((d.fuseTo n).putS s).crash keep t).done ≤ d.done + 2 ∧ (N = s ∨ (N = L ∧ (d.fuseTo n).putE s ≠ 0)) := by
  have ht : Tail0 (d.blk (s.gen % 2)) := by
    rcases Nat.mod_two_eq_zero_or_one s.gen with e | e
    · rw [e]; exact h.t0
    · rw [e]; exact h.t1
  obtain ⟨m, hm, ⟨e, hne⟩ | e⟩ := torn_step h.fr (by rw [h.len]; omega) hs hg (by rw [h.len, hb]; rfl) ht n keep t
  · refine ⟨L, ?_, by rw [e]; exact hm, .inr ⟨rfl, hne⟩⟩
    rw [e]
    exact ⟨fresh_mk _ _, h.len, h.ok, h.good, h.bl, h.at_, h.old, h.t0, h.t1⟩
  · refine ⟨s, ?_, by rw [e]; exact hm, .inl rfl⟩
    rw [e]
    have hk : s.gen % 2 < d.bl.length := by rw [h.len]; omega
    have hE := tail0_enc hs hg
    have hj : 1 - s.gen % 2 = L.gen % 2 := by omega
    have hne : s.gen % 2 ≠ L.gen % 2 := by omega
    have b1 : (⟨d.bl.set (s.gen % 2) s.enc, [], -1, m, false⟩ : DS).blk (s.gen % 2) = s.enc := blk_set_same hk _
    have b2 : (⟨d.bl.set (s.gen % 2) s.enc, [], -1, m, false⟩ : DS).blk (L.gen % 2) = L.enc := (blk_set_other hne _).trans h.at_
    refine ⟨fresh_mk _ _, by show (d.bl.set _ _).length = 16; rw [List.length_set]; exact h.len, hs, hg, hb, b1, fun _ => ?_, ?_, ?_⟩
    · rw [hj, b2, dec_enc h.ok h.good]; omega
    · rcases Nat.mod_two_eq_zero_or_one s.gen with e | e
      · rw [e] at b1 ⊢
        rw [b1]; exact hE
      · have e2 : L.gen % 2 = 0 := by omega
        rw [e2] at b2
        rw [b2]; exact tail0_enc h.ok h.good
    · rcases Nat.mod_two_eq_zero_or_one s.gen with e | e
      · have e2 : L.gen % 2 = 1 := by omega
        rw [e2] at b2
        rw [b2]; exact tail0_enc h.ok h.good
      · rw [e] at b1 ⊢
        rw [b1]; exact hE

/-! ### the one that is written first -/
def sF : SP := ⟨2, 16, 0, List.replicate 32 0, 3 :: List.replicate 15 0⟩
theorem sF_ok : sF.Ok := ⟨by decide, by decide, by decide, rfl, rfl⟩
theorem sF_good : sF.good = true := by decide +kernel
theorem inv_first : (DS.new 16).putE sF = 0 ∧ Inv7 ((DS.new 16).putS sF) sF ∧ ((DS.new 16).putS sF).done = 2 := by
  obtain ⟨p1, p2⟩ := (fresh_new 16).put (s := sF) (by decide) sF_good rfl
  refine ⟨p1, ?_, by rw [p2]; rfl⟩
  rw [p2]
  have b0 : (⟨(DS.new 16).bl.set (sF.gen % 2) sF.enc, [], -1, (DS.new 16).done + 2, false⟩ : DS).blk 0 = sF.enc := blk_set_same (d := zb16) (by decide) _
  have b1 : (⟨(DS.new 16).bl.set (sF.gen % 2) sF.enc, [], -1, (DS.new 16).done + 2, false⟩ : DS).blk 1 = zblk := blk_set_other (d := zb16) (by decide) _
  refine ⟨fresh_mk _ _, by show (List.set _ _ _).length = 16; rw [List.length_set]; rfl, sF_ok, sF_good, rfl, b0, fun hb => ?_, ?_, ?_⟩
  · have hz : isB 16 1 zblk = true := by rw [← b1]; exact hb
    rw [isB_z] at hz; cases hz
  · rw [b0]; exact tail0_enc sF_ok sF_good
  · rw [b1]; exact tail0_z

/-! ### what is written then -/
def usedT (a b : UInt8) : List UInt8 := (3 ||| a) :: b :: List.replicate 14 0
theorem usedT_len (a b : UInt8) : (usedT a b).length = 16 := rfl
theorem three_or : ∀ a : UInt8, (3 ||| a).toNat.testBit 0 = true ∧ (3 ||| a).toNat.testBit 1 = true := by
  intro a
  rw [UInt8.toNat_or, Nat.testBit_or, Nat.testBit_or]
  exact ⟨rfl, rfl⟩
theorem bit_far {a b : UInt8} {k : Nat} (h : 16 ≤ k) : bit (usedT a b) k = false := by
  have h2 : ∃ j, k / 8 = j + 1 + 1 := ⟨k / 8 - 2, by omega⟩
  obtain ⟨j, hj⟩ := h2
  unfold bit byteAt usedT
  rw [hj, List.getElem?_cons_succ, List.getElem?_cons_succ]
  have : (List.replicate 14 (0 : UInt8))[j]?.getD 0 = 0 := by
    rw [List.getElem?_replicate]; split <;> rfl
  rw [this]
  simp
theorem cnt_far {a b : UInt8} (n : Nat) : cntTo (usedT a b) (16 + n) = cntTo (usedT a b) 16 := by
  induction n with
  | zero => rfl
  | succ n ih =>
    rw [← ih, show 16 + (n + 1) = (16 + n) + 1 from rfl]
    show cntTo _ (16 + n) + (if bit (usedT a b) (16 + n) then 1 else 0) = _
    rw [bit_far (by omega)]
    rfl
def nextS (L : SP) (log : List UInt8) (a b : UInt8) (r : Int) : SP := ⟨L.gen + 1, 16, r % 14 + 2, log, usedT a b⟩
theorem nextS_good {L : SP} {log : List UInt8} {a b : UInt8} {r : Int} (hl : L.gen < 1000) : (nextS L log a b r).good = true := by
  unfold SP.good SP.nums SP.bits nextS
  have h1 : hasB (usedT a b) 0 = true := by
    rw [show (0 : Int) = ((0 : Nat) : Int) from rfl, hasB_nat (by omega)]; exact (three_or a).1
  have h2 : hasB (usedT a b) 1 = true := by
    rw [show (1 : Int) = ((1 : Nat) : Int) from rfl, hasB_nat (by omega)]; exact (three_or a).2
  have h3 : cntTo (usedT a b) 128 = cntTo (usedT a b) (min (16 : Int) 128).toNat := cnt_far 112
  simp only [h1, h2, h3, Bool.true_and, Bool.and_true, decide_eq_true_eq, decide_true]
  omega
theorem nextS_ok {L : SP} {log : List UInt8} {a b : UInt8} {r : Int} (hl : L.gen < 1000) (hlog : log.length = 32) : (nextS L log a b r).Ok := by
  refine ⟨?_, ?_, ?_, hlog, rfl⟩
  · show L.gen + 1 < _; omega
  · show -9223372036854775808 ≤ (16 : Int) ∧ (16 : Int) ≤ 9223372036854775807; omega
  · show -9223372036854775808 ≤ r % 14 + 2 ∧ r % 14 + 2 ≤ 9223372036854775807; omega
end Go.Proofs.Ytnkdbkgihemjnaa
