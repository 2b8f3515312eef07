/- The walk over SuperTorn, and what it rests on: a Write of the next generation that is cut anywhere. (s4/torn.py writes it.) -/
import Derived.Test.YtnkdbkgihemjnaaSupArg
import Derived.Test.YtnkdbkgihemjnaaDskStep
namespace Go.Proofs.Ytnkdbkgihemjnaa
set_option linter.unusedSimpArgs false
set_option linter.unusedVariables false
open Go.RowKit Go.ChangeShapes Go.WideShapes Go.Sort Go.Deep

/-- the second half is zeros -/
def Tail0 (b : Blk) : Prop := b.length = 128 ∧ b.drop 64 = List.replicate 64 0
theorem tail0_z : Tail0 zblk := ⟨by unfold zblk; exact List.length_replicate, by unfold zblk; rw [List.drop_replicate]⟩
theorem tail0_enc {s : SP} (h : s.Ok) (hg : s.good = true) : Tail0 s.enc := by
  refine ⟨h.enc, ?_⟩
  obtain ⟨r, he, hr, -, hd⟩ := enc_form h hg
  have e : (hd7 s ++ (s.log ++ (s.used ++ r))).drop 64 = r.drop 9 := by
    rw [show (64 : Nat) = (hd7 s).length + (32 + (16 + 9)) from rfl, ← List.drop_drop, List.drop_left, ← h.log, ← List.drop_drop, List.drop_left, ← h.used, ← List.drop_drop, List.drop_left]
  rw [he, e, show (9 : Nat) = 4 + 5 from rfl, ← List.drop_drop, hd]
  rfl
theorem half_same {n : Nat} {b a : Blk} (hn : n = 64 ∨ n = 128) (hb : Tail0 b) (ha : Tail0 a) : halfOf n b a = b := by
  unfold halfOf
  rcases hn with rfl | rfl
  · rw [ha.2, ← hb.2, List.take_append_drop]
  · rw [List.take_of_length_le (by rw [hb.1]; omega), List.drop_of_length_le (by rw [ha.1]; omega), List.append_nil]

theorem torn_step {d : DS} (hf : d.Fresh) (h2 : 2 ≤ d.bl.length) {s : SP} (hs : s.Ok) (hg : s.good = true) (hb : s.blocks = (d.bl.length : Int)) (ht : Tail0 (d.blk (s.gen % 2))) (n : Int) (keep : List UInt8) (t : Int) :
    ∃ m, m ≤ d.done + 2 ∧ (((d.fuseTo n).putS s).crash keep t = ⟨d.bl, [], -1, m, false⟩ ∧ (d.fuseTo n).putE s ≠ 0 ∨ ((d.fuseTo n).putS s).crash keep t = ⟨d.bl.set (s.gen % 2) s.enc, [], -1, m, false⟩) := by
  obtain ⟨bl, lo, fu, dn, dw⟩ := d
  obtain ⟨hd, hfu, hl⟩ := hf
  simp only at hd hfu hl h2 hb
  subst hd hfu hl
  have hk : s.gen % 2 < bl.length := by omega
  obtain ⟨k, hk'⟩ : ∃ k, s.gen % 2 = k := ⟨_, rfl⟩
  rw [hk'] at hk ht ⊢
  have hgb : s.good = true ∧ s.blocks = (bl.length : Int) := ⟨hg, hb⟩
  have hE := tail0_enc hs hg
  obtain ⟨E, hEe⟩ : ∃ E, s.enc = E := ⟨_, rfl⟩
  rw [hEe] at hE ⊢
  obtain ⟨f, hfe⟩ : ∃ f, max n (-1) = f := ⟨_, rfl⟩
  have hf1 : -1 ≤ f := by omega
  have hd1 : (⟨bl, [], -1, dn, false⟩ : DS).fuseTo n = ⟨bl, [], f, dn, false⟩ := by unfold DS.fuseTo; rw [hfe]
  rw [hd1]
  have hin : (⟨bl, [], f, dn, false⟩ : DS).inB (k : Int) = true := DS.inB_iff.2 ⟨by omega, by show (k : Int) < (bl.length : Int); omega⟩
  unfold DS.putS DS.putE
  rw [if_pos hgb, if_pos hgb, hk', hEe]
  by_cases f0 : f = 0
  · subst f0
    have hw : (⟨bl, [], 0, dn, false⟩ : DS).write (k : Int) E = ⟨bl, [], 0, dn, true⟩ := by unfold DS.write; rw [if_pos hin]; rfl
    have hwe : (⟨bl, [], 0, dn, false⟩ : DS).writeE (k : Int) = 12 := by unfold DS.writeE; rw [if_pos hin]; rfl
    rw [hwe, hw]
    exact ⟨dn, by show dn ≤ dn + 2; omega, .inl ⟨rfl, by rw [if_neg (by decide)]; decide⟩⟩
  · have hst : (⟨bl, [], f, dn, false⟩ : DS).stops = false := by simp [DS.stops, f0]
    have hw : (⟨bl, [], f, dn, false⟩ : DS).write (k : Int) E = ⟨bl, [(k, E)], if 0 < f then f - 1 else f, dn + 1, false⟩ := by
      unfold DS.write; rw [if_pos hin, hst]; simp [DS.gone]
    have hwe : (⟨bl, [], f, dn, false⟩ : DS).writeE (k : Int) = 0 := by unfold DS.writeE; rw [if_pos hin]; unfold DS.passE; rw [hst]; rfl
    rw [hwe, if_pos rfl, if_pos rfl, hw]
    by_cases f1 : f = 1
    · subst f1
      refine ⟨dn + 1, by show dn + 1 ≤ dn + 2; omega, ?_⟩
      have hsy : (⟨bl, [(k, E)], if (0 : Int) < 1 then 1 - 1 else 1, dn + 1, false⟩ : DS).sync = ⟨bl, [(k, E)], 0, dn + 1, true⟩ := rfl
      rw [hsy]
      have hcr : (⟨bl, [(k, E)], 0, dn + 1, true⟩ : DS).crash keep t = ⟨crash1 keep t 0 bl (k, E), [], -1, dn + 1, false⟩ := rfl
      rw [hcr]
      unfold crash1
      split
      · right
        have hh : halfOf (sizeOf' t 0) E (bl[k]?.getD zblk) = E := half_same (by unfold sizeOf'; split; exact .inl rfl; exact .inr rfl) hE ht
        show (⟨bl.set k (halfOf (sizeOf' t 0) E (bl[k]?.getD zblk)), [], -1, dn + 1, false⟩ : DS) = _
        rw [hh]
      · left
        exact ⟨rfl, by show (12 : Int) ≠ 0; decide⟩
    · refine ⟨dn + 2, Nat.le_refl _, .inr ?_⟩
      have hst2 : (⟨bl, [(k, E)], if 0 < f then f - 1 else f, dn + 1, false⟩ : DS).stops = false := by
        unfold DS.stops
        simp only [Bool.false_or, decide_eq_false_iff_not]
        split <;> omega
      have hsy : (⟨bl, [(k, E)], if 0 < f then f - 1 else f, dn + 1, false⟩ : DS).sync = ⟨bl.set k E, [], if 0 < (if 0 < f then f - 1 else f) then (if 0 < f then f - 1 else f) - 1 else (if 0 < f then f - 1 else f), dn + 2, false⟩ := by
        unfold DS.sync
        rw [hst2]
        rfl
      rw [hsy]
      rfl

/-- what is so at each round's head: the newest one is L -/
structure Inv7 (d : DS) (L : SP) : Prop where
  fr : d.Fresh
  len : d.bl.length = 16
  ok : L.Ok
  good : L.good = true
  bl : L.blocks = 16
  at_ : d.blk (L.gen % 2) = L.enc
  old : isB 16 (1 - L.gen % 2) (d.blk (1 - L.gen % 2)) = true → (decP (d.blk (1 - L.gen % 2))).gen < L.gen
  t0 : Tail0 (d.blk 0)
  t1 : Tail0 (d.blk 1)
theorem Inv7.newest {d : DS} {L : SP} (h : Inv7 d L) : d.newest = L ∧ d.newestE = 0 := by
  have g0 := (good_nums h.good).1
  have ha : isB 16 (L.gen % 2) L.enc = true := isB_enc h.ok h.good h.bl rfl
  have hd := dec_enc h.ok h.good
  obtain ⟨n1, n2⟩ := newest_fresh h.fr (by rw [h.len]; omega)
  have e : two d.bl.length (d.blk 0) (d.blk 1) = L := by
    rw [h.len]
    have hat := h.at_
    have ho := h.old
    rcases Nat.mod_two_eq_zero_or_one L.gen with e | e
    · rw [e] at ha hat ho
      rw [hat]
      have h1 : one0 16 L.enc = L := by rw [one0_yes ha, hd]
      cases hb : isB 16 1 (d.blk 1)
      · rw [two_no hb, h1]
      · have := ho hb
        rw [two_old (by rw [h1]; exact Nat.not_lt.2 (Nat.le_of_lt this)), h1]
    · rw [e] at ha hat ho
      rw [hat, two_yes ha, hd]
      rw [hd]
      cases hb : isB 16 0 (d.blk 0)
      · rw [one0_no hb, sp0_gen]; omega
      · rw [one0_yes hb]; exact ho hb
  rw [e] at n1 n2
  exact ⟨n1, by rw [n2, if_neg (by omega)]⟩
/-- the next one: it, or the one ahead -/
theorem Inv7.next {d : DS} {L s : SP} (h : Inv7 d L) (hs : s.Ok) (hg : s.good = true) (hb : s.blocks = 16) (hn : s.gen = L.gen + 1) (n : Int) (keep : List UInt8) (t : Int) :
    ∃ N, Inv7 (((d.fuseTo n).putS s).crash keep t) N ∧ (((d.fuseTo n).putS s).crash keep t).done ≤ d.done + 2 ∧ (N = s ∨ (N = L ∧ (d.fuseTo n).putE s ≠ 0)) := by
  have ht : Tail0 (d.blk (s.gen % 2)) := by
    rcases Nat.mod_two_eq_zero_or_one s.gen with e | e
    · rw [e]; exact h.t0
    · rw [e]; exact h.t1
  obtain ⟨m, hm, ⟨e, hne⟩ | e⟩ := torn_step h.fr (by rw [h.len]; omega) hs hg (by rw [h.len, hb]; rfl) ht n keep t
  · refine ⟨L, ?_, by rw [e]; exact hm, .inr ⟨rfl, hne⟩⟩
    rw [e]
    exact ⟨fresh_mk _ _, h.len, h.ok, h.good, h.bl, h.at_, h.old, h.t0, h.t1⟩
  · refine ⟨s, ?_, by rw [e]; exact hm, .inl rfl⟩
    rw [e]
    have hk : s.gen % 2 < d.bl.length := by rw [h.len]; omega
    have hE := tail0_enc hs hg
    have hj : 1 - s.gen % 2 = L.gen % 2 := by omega
    have hne : s.gen % 2 ≠ L.gen % 2 := by omega
    have b1 : (⟨d.bl.set (s.gen % 2) s.enc, [], -1, m, false⟩ : DS).blk (s.gen % 2) = s.enc := blk_set_same hk _
    have b2 : (⟨d.bl.set (s.gen % 2) s.enc, [], -1, m, false⟩ : DS).blk (L.gen % 2) = L.enc := (blk_set_other hne _).trans h.at_
    refine ⟨fresh_mk _ _, by show (d.bl.set _ _).length = 16; rw [List.length_set]; exact h.len, hs, hg, hb, b1, fun _ => ?_, ?_, ?_⟩
    · rw [hj, b2, dec_enc h.ok h.good]; omega
    · rcases Nat.mod_two_eq_zero_or_one s.gen with e | e
      · rw [e] at b1 ⊢
        rw [b1]; exact hE
      · have e2 : L.gen % 2 = 0 := by omega
        rw [e2] at b2
        rw [b2]; exact tail0_enc h.ok h.good
    · rcases Nat.mod_two_eq_zero_or_one s.gen with e | e
      · have e2 : L.gen % 2 = 1 := by omega
        rw [e2] at b2
        rw [b2]; exact tail0_enc h.ok h.good
      · rw [e] at b1 ⊢
        rw [b1]; exact hE

/-! ### the one that is written first -/
def sF : SP := ⟨2, 16, 0, List.replicate 32 0, 3 :: List.replicate 15 0⟩
theorem sF_ok : sF.Ok := ⟨by decide, by decide, by decide, rfl, rfl⟩
theorem sF_good : sF.good = true := by decide +kernel
theorem inv_first : (DS.new 16).putE sF = 0 ∧ Inv7 ((DS.new 16).putS sF) sF ∧ ((DS.new 16).putS sF).done = 2 := by
  obtain ⟨p1, p2⟩ := (fresh_new 16).put (s := sF) (by decide) sF_good rfl
  refine ⟨p1, ?_, by rw [p2]; rfl⟩
  rw [p2]
  have b0 : (⟨(DS.new 16).bl.set (sF.gen % 2) sF.enc, [], -1, (DS.new 16).done + 2, false⟩ : DS).blk 0 = sF.enc := blk_set_same (d := zb16) (by decide) _
  have b1 : (⟨(DS.new 16).bl.set (sF.gen % 2) sF.enc, [], -1, (DS.new 16).done + 2, false⟩ : DS).blk 1 = zblk := blk_set_other (d := zb16) (by decide) _
  refine ⟨fresh_mk _ _, by show (List.set _ _ _).length = 16; rw [List.length_set]; rfl, sF_ok, sF_good, rfl, b0, fun hb => ?_, ?_, ?_⟩
  · have hz : isB 16 1 zblk = true := by rw [← b1]; exact hb
    rw [isB_z] at hz; cases hz
  · rw [b0]; exact tail0_enc sF_ok sF_good
  · rw [b1]; exact tail0_z

/-! ### what is written then -/
def usedT (a b : UInt8) : List UInt8 := (3 ||| a) :: b :: List.replicate 14 0
theorem usedT_len (a b : UInt8) : (usedT a b).length = 16 := rfl
theorem three_or : ∀ a : UInt8, (3 ||| a).toNat.testBit 0 = true ∧ (3 ||| a).toNat.testBit 1 = true := by
  intro a
  rw [UInt8.toNat_or, Nat.testBit_or, Nat.testBit_or]
  exact ⟨rfl, rfl⟩
theorem bit_far {a b : UInt8} {k : Nat} (h : 16 ≤ k) : bit (usedT a b) k = false := by
  have h2 : ∃ j, k / 8 = j + 1 + 1 := ⟨k / 8 - 2, by omega⟩
  obtain ⟨j, hj⟩ := h2
  unfold bit byteAt usedT
  rw [hj, List.getElem?_cons_succ, List.getElem?_cons_succ]
  have : (List.replicate 14 (0 : UInt8))[j]?.getD 0 = 0 := by
    rw [List.getElem?_replicate]; split <;> rfl
  rw [this]
  simp
theorem cnt_far {a b : UInt8} (n : Nat) : cntTo (usedT a b) (16 + n) = cntTo (usedT a b) 16 := by
  induction n with
  | zero => rfl
  | succ n ih =>
    rw [← ih, show 16 + (n + 1) = (16 + n) + 1 from rfl]
    show cntTo _ (16 + n) + (if bit (usedT a b) (16 + n) then 1 else 0) = _
    rw [bit_far (by omega)]
    rfl
def nextS (L : SP) (log : List UInt8) (a b : UInt8) (r : Int) : SP := ⟨L.gen + 1, 16, r % 14 + 2, log, usedT a b⟩
theorem nextS_good {L : SP} {log : List UInt8} {a b : UInt8} {r : Int} (hl : L.gen < 1000) : (nextS L log a b r).good = true := by
  unfold SP.good SP.nums SP.bits nextS
  have h1 : hasB (usedT a b) 0 = true := by
    rw [show (0 : Int) = ((0 : Nat) : Int) from rfl, hasB_nat (by omega)]; exact (three_or a).1
  have h2 : hasB (usedT a b) 1 = true := by
    rw [show (1 : Int) = ((1 : Nat) : Int) from rfl, hasB_nat (by omega)]; exact (three_or a).2
  have h3 : cntTo (usedT a b) 128 = cntTo (usedT a b) (min (16 : Int) 128).toNat := cnt_far 112
  simp only [h1, h2, h3, Bool.true_and, Bool.and_true, decide_eq_true_eq, decide_true]
  omega
theorem nextS_ok {L : SP} {log : List UInt8} {a b : UInt8} {r : Int} (hl : L.gen < 1000) (hlog : log.length = 32) : (nextS L log a b r).Ok := by
  refine ⟨?_, ?_, ?_, hlog, rfl⟩
  · show L.gen + 1 < _; omega
  · show -9223372036854775808 ≤ (16 : Int) ∧ (16 : Int) ≤ 9223372036854775807; omega
  · show -9223372036854775808 ≤ r % 14 + 2 ∧ r % 14 + 2 ≤ 9223372036854775807; omega

theorem fuse_tail {s0 : SP} (h0 : s0.Ok) {L U : List UInt8} (hL : L.length = 32) (hU : U.length = 16) :
    setMany (setMany s0.cells.toArray 3 (bvs L)) 35 (bvs U) = (SP.mk s0.gen s0.blocks s0.root L U).cells.toArray := by
  have e0 : s0.cells = [.int .u32 (s0.gen : Int), .int .i64 s0.blocks, .int .i64 s0.root] ++ bvs s0.log ++ bvs s0.used := rfl
  have e1 : (SP.mk s0.gen s0.blocks s0.root L U).cells = [.int .u32 (s0.gen : Int), .int .i64 s0.blocks, .int .i64 s0.root] ++ bvs L ++ bvs U := rfl
  have l32 : (bvs s0.log).length = (bvs L).length := by rw [bvs_len, bvs_len, hL, h0.log]
  have l16 : (bvs s0.used).length = (bvs U).length := by rw [bvs_len, bvs_len, hU, h0.used]
  rw [e0, e1]
  generalize hH : [Value.int .u32 (s0.gen : Int), .int .i64 s0.blocks, .int .i64 s0.root] = H at *
  have h3 : H.length = 3 := by rw [← hH]; rfl
  have a1 := setMany_mid (x := H) (z := bvs s0.used) l32
  have a2 := setMany_mid (x := H ++ bvs L) (z := []) l16
  rw [h3] at a1
  rw [List.length_append, h3, bvs_len, hL, List.append_nil, List.append_nil] at a2
  rw [a1, a2]
def encP (s : SP) : List Value := if s.cells.length = 51 then s.cells else List.replicate 51 (.bool false)
theorem encP_len (s : SP) : (encP s).length = 51 := by
  unfold encP
  split
  · assumption
  · exact List.length_replicate
theorem SP.Ok.encP {s : SP} (h : s.Ok) : encP s = s.cells := if_pos h.len
set_option maxRecDepth 100000 in
theorem open_sps {H : Type} {enc : TypeId × Value → H} {w : World} {base : Nat} {v : Value} {d : DataW H} {p : List MemPlace} (k : Value.okWide Try.prog w .any base 59 v) (h : DataW.Trod enc Try.prog w 0 (fun _ => true) true 59 v d p) :
    ∃ A c, ∃ l : List SP, v = .slice A l.length c ∧ l.length ≤ c ∧ c ≤ maxLen ∧ Sl w w.heap.size 51 A l.length (l.flatMap encP) ∧ ∀ x ∈ l, x.Ok := by
  obtain ⟨A, n, c, l, h1, h2, h3, h4, h5, h6, h7⟩ := open_slA (encA := encP) (ok := fun a : SP => a.Ok) Try.underlying59 (sz := 51) (by kernel_rfl) (by omega) encP_len (fun fuel cs x hx => by
    obtain ⟨s, e, ok⟩ := dec_sp fuel cs x hx
    exact ⟨s, by rw [ok.encP]; exact e, ok⟩) k h
  subst h2
  exact ⟨A, c, l, h1, h3, h4, h6, h7⟩
theorem sps_at {w : World} {B : Nat} {A : Option Addr} {l : List SP} (h : Sl w B 51 A l.length (l.flatMap encP)) {k : Nat} {x : SP} (hk : l[k]? = some x) (ok : x.Ok) : ∃ b o, A = some ⟨b, o, none⟩ ∧ b < B ∧ w.rangeAt b (o + k * 51) x.cells := by
  obtain ⟨b, o, e, hb, _, hr⟩ := h.elem (List.getElem?_eq_some_iff.1 hk).1
  rw [show ((l.flatMap encP).drop (k * 51)).take 51 = encP x from flatMap_part encP 51 encP_len l k x hk, ok.encP] at hr
  exact ⟨b, o, e, hb, hr⟩
theorem built_bm3 : Try.prog.built 36 [(0, .int .u8 3)] = some (bvs (3 :: List.replicate 15 0)).toArray := by kernel_rfl
theorem built_sF : Try.prog.built 38 [(0, .int .u32 2), (1, .int .i64 16), (4, .agg (bvs (3 :: List.replicate 15 0)).toArray)] = some sF.cells.toArray := by kernel_rfl
theorem built_used (x y : Int) : Try.prog.built 36 [(0, .int .u8 x), (1, .int .u8 y)] = some (Value.int .u8 x :: Value.int .u8 y :: bvs (List.replicate 14 0)).toArray := by kernel_rfl
theorem used_bvs (a b : UInt8) : bvs (usedT a b) = Value.int .u8 ((3 ||| a).toNat : Int) :: Value.int .u8 (b.toNat : Int) :: bvs (List.replicate 14 0) := rfl
theorem or3 (a : UInt8) : bits .or .u8 3 (a.toNat : Int) = ((3 ||| a).toNat : Int) := by
  have := u8_or 3 a.toNat (by omega) a.toNat_lt
  rw [UInt8.toNat_or]
  exact this
theorem wordsT : ∃ (SF : SP) (cb : Array Value), SF = sF ∧ SF.Ok ∧ Try.prog.built 36 [(0, .int .u8 3)] = some cb ∧ Try.prog.built 38 [(0, .int .u32 2), (1, .int .i64 16), (4, .agg cb)] = some SF.cells.toArray :=
  ⟨sF, _, rfl, sF_ok, built_bm3, built_sF⟩
theorem gen_set {s : SP} (n : Nat) : s.cells.toArray.setIfInBounds 0 (.int .u32 (n : Int)) = (SP.mk n s.blocks s.root s.log s.used).cells.toArray := rfl
theorem root_set {s : SP} (r : Int) : s.cells.toArray.setIfInBounds 2 (.int .i64 r) = (SP.mk s.gen s.blocks r s.log s.used).cells.toArray := rfl
theorem sp_range {w : World} {b o : Nat} {s : SP} (hs : s.Ok) (h : w.rangeAt b o s.cells) : w.cell? ⟨b, o + 2, none⟩ = some (.int .i64 s.root) ∧ w.rangeAt b (o + 3) (bvs s.log) ∧ w.rangeAt b (o + 35) (bvs s.used) := by
  have e : s.cells = [.int .u32 (s.gen : Int), .int .i64 s.blocks, .int .i64 s.root] ++ (bvs s.log ++ bvs s.used) := rfl
  rw [e, range_append] at h
  obtain ⟨h1, h2⟩ := h
  rw [range_append, bvs_len, hs.log] at h2
  exact ⟨h1 2 _ rfl, h2.1, h2.2⟩
theorem two_bytes {l : List UInt8} (h : l.length = 16) : ∃ a b r, l = a :: b :: r := by
  match l, h with
  | a :: b :: r, _ => exact ⟨a, b, r, rfl⟩

attribute [-go_sem] Builtin.append_
theorem sync_le (s : DS) : s.sync.done ≤ s.done + 1 ∧ s.sync.lo.length ≤ s.lo.length := by
  unfold DS.sync
  split
  · exact ⟨by show s.done ≤ _; omega, Nat.le_refl _⟩
  · exact ⟨Nat.le_refl _, by show ([] : List (Nat × Blk)).length ≤ _; simp⟩
theorem put_le (d : DS) (s : SP) : (d.putS s).done ≤ d.done + 2 ∧ (d.putS s).lo.length ≤ d.lo.length + 1 := by
  have h := write_done d ((s.gen % 2 : Nat) : Int) s.enc
  have h2 := sync_le (d.write ((s.gen % 2 : Nat) : Int) s.enc)
  unfold DS.putS
  split
  · split
    · omega
    · omega
  · omega

set_option maxHeartbeats 16000000 in
set_option maxRecDepth 100000 in
theorem superTorn_go {w : World} {A A' : Option Addr} {c c' : Nat} {l : List SP} {xs : List Stp} (hsl : Sl w w.heap.size 51 A l.length (l.flatMap encP)) (hc : l.length ≤ c) (hm : c ≤ maxLen) (hokl : ∀ x ∈ l, x.Ok)
    (hsx : Sl w w.heap.size 4 A' xs.length (encS xs)) (hc' : xs.length ≤ c') (hm' : c' ≤ maxLen) (hokx : ∀ x ∈ xs, x.Ok w) (h20 : l.length ≤ 20) (hlx : l.length ≤ xs.length) (ht : fairL xs = true) :
    Calls Try.prog 4 #[.slice A l.length c, .slice A' xs.length c'] w (Ret w (.bool true)) := by
  have hm3 : xs.length ≤ 9223372036854775807 := by simp only [maxLen] at hm'; omega
  have hfair := fair_any (w := w) hsx hc' hm'
  rw [ht] at hfair
  have h60 : ∀ x ∈ xs, x.keep.length ≤ 300 := by
    unfold fairL at ht
    simp at ht
    exact ht.1
  have hkp := h60
  obtain ⟨SF, cb, eF, oF, bb, bF⟩ := wordsT
  have HSF := Lib.hid eF
  have iF := sp_info oF
  have zF := sp_sizes sp0_ok oF
  clear ht h60 eF
  have g1 : ¬ (20 : Int) < l.length := by omega
  have g2 : ¬ (xs.length : Int) < l.length := by omega
  go_enter Try.func4, Try.ntmps4
  go_wp2_with fail
  refine hfair.mono ?_
  rintro e _ ⟨rfl, rfl⟩
  clear hfair g1 g2
  go_wp2_with fail
  refine (new_any 16 (by omega) (by omega) _).mono ?_
  rintro e w1 ⟨rfl, hk, hB⟩
  unfold dp
  go_upto_region 4 with (fail)
  obtain ⟨Y7, hY, r7, bY⟩ := newRow w1 sp0.cells.toArray SF.cells.toArray 38
  have hlt7 := hk.lt.1
  have q7 := Rw.new hk (Nat.le_refl _) r7
  replace hk := hk.below bY
  have hz1 := hB.size
  replace hB := hB.trans (bY.mono hB.size)
  have hz7 := hk.lt
  refine wp_region_lit ?_
  refine wpList_built rfl 36 #[(0, .const (.int .u8 3))] rfl (cs := cb) (by simp only [List.map_toArray, List.map_cons, List.map_nil]; exact bb) ?_
  (try simp only [Act.put, List.setIfInBounds_toArray, List.set_cons_zero, List.set_cons_succ])
  refine wpList_built rfl 38 #[(0, .const (.int .u32 2)), (1, .const (.int .i64 16)), (4, .tmp 33)] rfl (cs := SF.cells.toArray) (by simp only [List.map_toArray, List.map_cons, List.map_nil]; exact bF) ?_
  (try simp only [Act.put, List.setIfInBounds_toArray, List.set_cons_zero, List.set_cons_succ])
  refine wpList_new rfl spZ rfl ?_
  (try simp only [Act.put, List.setIfInBounds_toArray, List.set_cons_zero, List.set_cons_succ])
  refine wpList_store_row rfl 38 (.tmp 7) (.tmp 34) rfl _ SF.cells.toArray rfl rfl _ sp0.cells.toArray (heap_alloc_new _ _) iF zF (all_oneCell_toArray (one_sp _)) ?_
  (try simp only [Act.put, List.setIfInBounds_toArray, List.set_cons_zero, List.set_cons_succ])
  go_upto_region 5 with (fail)
  try rw [hY]
  clear hY r7 bY
  have hw := sput_any hk (by decide) (by decide) oF
  obtain ⟨p1, p2, p3⟩ := inv_first
  rw [← HSF.out] at p1 p2 p3
  rw [p1] at hw
  unfold dp spv at hw
  have q70 := q7.at_
  go_upto_region 7 with (first
    | (refine wpList_load_row_g (by simp [Region.wanted, yielded, Act.put]) 38 (.tmp 7) rfl _ rfl _ SF.cells.toArray (0, 0) _ q70 Try.underlying38 rfl iF ?_)
    | (go_at_call 19; refine Calls.mono hw ?_; rintro e W2 ⟨rfl, v2, hk2, hs2⟩)
    | fail)
  replace q7 := q7.step hs2
  replace hB := hB.trans (hs2.below hk)
  clear hk hs2 hw q70
  obtain ⟨g7, hg7'⟩ : ∃ g, w1.heap.size = g := ⟨_, rfl⟩
  rw [hg7'] at q7 hlt7 ⊢
  have hg7 : w.heap.size ≤ g7 := by omega
  clear hg7' hz7 hz1
  have gF : SF.gen = 2 := by rw [HSF.out]; rfl
  go_wp2_with fail
  go_loopw [8] (fun i wr => ∃ (k : Nat) (d : DS) (L : SP) (v : Value), i = .int .i64 k ∧ k ≤ l.length ∧ Dk wr w.heap.size (w.heap.size + 1) w.heap.size v d ∧ Inv7 d L ∧ L.gen ≤ 2 + k ∧ d.done ≤ 2 + 2 * k ∧ Rw wr (w.heap.size + 1) w.heap.size v g7 L.cells.toArray 38 ∧ Below w.heap.size w wr) (fun i _ => l.length - (intOf i).toNat)
  case atStart => exact ⟨0, _, SF, v2, rfl, by omega, hk2, p2, by omega, by omega, q7, hB⟩
  case round =>
    clear hk2 q7 hB p1 p2 p3 gF bb bF iF zF oF
    obtain ⟨k, d, L, v, rfl, hkk, hk, hI, hLg, hdd, q7, hB⟩ := hrel
    by_cases hlt : k < l.length
    ·
      obtain ⟨x, hx⟩ : ∃ x, l[k]? = some x := ⟨_, List.getElem?_eq_getElem hlt⟩
      obtain ⟨y, hy⟩ : ∃ y, xs[k]? = some y := ⟨_, List.getElem?_eq_getElem (by omega)⟩
      have oX := hokl x (List.mem_of_getElem? hx)
      have hym := List.mem_of_getElem? hy
      obtain ⟨yi63, ykp, ykc, ykm⟩ := hokx y hym
      have yk3 := hkp y hym
      obtain ⟨b1, o1, rfl, hlb1, hr1⟩ := sps_at (hsl.below hB) hx oX
      obtain ⟨b2, o2, rfl, hlb2, -, z1, -, z3⟩ := step_at (hsx.below hB) hy
      obtain ⟨r2, r3, r4⟩ := sp_range oX hr1
      have hlogl := oX.log
      obtain ⟨ua, ub, ur, hus⟩ := two_bytes oX.used
      rw [hus] at r4
      have u0 : wr.cell? ⟨b1, o1 + k * 51 + 35, none⟩ = some (.int .u8 (ua.toNat : Int)) := r4 0 _ rfl
      have u1 : wr.cell? ⟨b1, o1 + k * 51 + 36, none⟩ = some (.int .u8 (ub.toNat : Int)) := r4 1 _ rfl
      have hroot := oX.rt
      have g1 : (k : Int) < l.length := by omega
      have g2 : (k : Int) < xs.length := by omega
      have hzr := hB.size
      have oL := hI.ok
      have iL := sp_info oL
      have zL := sp_sizes sp0_ok oL
      have hNok : (nextS L x.log ua ub x.root).Ok := nextS_ok (by omega) oX.log
      have hNg : (nextS L x.log ua ub x.root).good = true := nextS_good (by omega)
      obtain ⟨NS, hNS⟩ : ∃ s, nextS L x.log ua ub x.root = s := ⟨_, rfl⟩
      have HNS := Lib.hid hNS
      rw [hNS] at hNok hNg
      have iN := sp_info hNok
      have hGd : ∀ j, Own (w.heap.size + 1) w.heap.size v j → j < wr.heap.size := fun j hj => (hk.own_ge j hj).2
      have hGe : ∀ j, Own (w.heap.size + 1) w.heap.size v j → w.heap.size ≤ j := fun j hj => (hk.own_ge j hj).1
      have h7lt := q7.lt
      clear hx hy hym hNS hr1 r4 hus
      -- s := last
      obtain ⟨Y, hY, r9, bY⟩ := newRow wr sp0.cells.toArray L.cells.toArray 38
      have q9 := Rw.new hk (Nat.le_refl _) r9
      have q70 := q7.at_
      replace q7 := q7.below bY
      replace hk := hk.below bY
      have hBY := hB.trans (bY.mono hzr)
      have hgY := q9.lt
      have eb1 : Y.heap[b1]? = wr.heap[b1]? := bY.block _ (by omega)
      have eb2 : Y.heap[b2]? = wr.heap[b2]? := bY.block _ (by omega)
      go_upto_region 10 with (fail)
      refine wp_region_lit ?_
      refine wpList_load_row rfl 38 (.tmp 7) rfl _ rfl _ L.cells.toArray (0, 0) _ q70 Try.underlying38 rfl iL ?_
      (try simp only [Act.put, List.setIfInBounds_toArray, List.set_cons_zero, List.set_cons_succ])
      refine wpList_new rfl spZ rfl ?_
      (try simp only [Act.put, List.setIfInBounds_toArray, List.set_cons_zero, List.set_cons_succ])
      refine wpList_store_row rfl 38 (.tmp 9) (.tmp 49) rfl _ L.cells.toArray rfl rfl _ sp0.cells.toArray (heap_alloc_new _ _) iL zL (all_oneCell_toArray (one_sp _)) ?_
      (try simp only [Act.put, List.setIfInBounds_toArray, List.set_cons_zero, List.set_cons_succ])
      go_upto_region 11 with (fail)
      try rw [hY]
      clear hY q70 r9 hB
      -- s.Gen++
      have c9 := blk_cell q9.at_ (sp_gen L)
      have f9 := blk_frozen q9.at_ 0
      have hgen : L.gen ≤ 1000 := by omega
      go_upto_region 12 with (fail)
      have ew : (L.gen : Int) + 1 = ((L.gen + 1 : Nat) : Int) := by omega
      rw [ew]
      have r9 := blk_set q9.at_ 0 (.int .u32 ((L.gen + 1 : Nat) : Int))
      rw [gen_set] at r9
      obtain ⟨Y1, hY⟩ : ∃ X, Y.setCell ⟨wr.heap.size, 0, none⟩ (.int .u32 ((L.gen + 1 : Nat) : Int)) = X := ⟨_, rfl⟩
      have bY1 : But Y.heap.size (· = wr.heap.size) Y Y1 := by rw [← hY]; exact (But.refl Y.heap.size _ _).set (X := (· = wr.heap.size)) (p := ⟨wr.heap.size, 0, none⟩) rfl _
      rw [hY] at r9 ⊢
      clear hY ew c9 f9
      -- s.Log, s.Used
      have o9 : (SP.mk (L.gen + 1) L.blocks L.root L.log L.used).Ok := ⟨by show L.gen + 1 < _; omega, oL.bl, oL.rt, oL.log, oL.used⟩
      have s9 : (SP.mk (L.gen + 1) L.blocks L.root L.log L.used).cells.toArray.size = 51 := by rw [List.size_toArray, o9.len]
      have sf := fuse_tail o9 hlogl (usedT_len ua ub)
      obtain ⟨C9, hC9⟩ : ∃ c, (SP.mk (L.gen + 1) L.blocks L.root L.log L.used).cells.toArray = c := ⟨_, rfl⟩
      rw [hC9] at r9 s9 sf
      have HF := Lib.hid sf
      clear hC9 sf o9
      have ob1 : Y1.heap[b1]? = wr.heap[b1]? := (bY1.block _ (by omega) (by omega)).trans eb1
      have ob2 : Y1.heap[b2]? = wr.heap[b2]? := (bY1.block _ (by omega) (by omega)).trans eb2
      let S : World → Prop := fun w' => w'.rangeAt b1 (o1 + k * 51 + 3) (bvs x.log) ∧ w'.cell? ⟨b1, o1 + k * 51 + 35, none⟩ = some (.int .u8 (ua.toNat : Int)) ∧ w'.cell? ⟨b1, o1 + k * 51 + 36, none⟩ = some (.int .u8 (ub.toNat : Int))
      have HS : Hid (∀ w', w'.heap[b1]? = wr.heap[b1]? → S w') := Lib.hid fun w' h => ⟨fun j u hj => (World.cell?_of_block (a := ⟨b1, o1 + k * 51 + 3 + j, none⟩) h).trans (r3 j u hj), (World.cell?_of_block (a := ⟨b1, o1 + k * 51 + 35, none⟩) h).trans u0, (World.cell?_of_block (a := ⟨b1, o1 + k * 51 + 36, none⟩) h).trans u1⟩
      have hS0 : S Y1.drew := HS.out _ ob1
      have lD : (Try.prog.info? 34).map (·.size) = some (bvs x.log).length := by rw [bvs_len, hlogl]; kernel_rfl
      have lU : (Try.prog.info? 36).map (·.size) = some (bvs (usedT ua ub)).length := by rw [bvs_len, usedT_len]; kernel_rfl
      have hor := or3 ua
      refine wp_region_held (S := S) (by kernel_rfl) ?_
      change wpAnyH _ _ _ _ S _ _ _ Y1.drew
      refine wpAnyH_take (i := 0) (oi := ?oi_1) (v := ?v_1) ?ho_1 ?h1_1 ?h2_1 ?h3_1 ?hq_1 (Or.inl ⟨?hw_1, ?hy_1⟩) ?hs_1 ?rest_1; (case h2_1 => kernel_rfl); (case h3_1 => kernel_rfl); (case ho_1 => (simp only [List.getElem?_toArray, List.getElem?_cons_zero, List.getElem?_cons_succ]; rfl)); (case h1_1 => kernel_rfl); (case hq_1 => exact fun _ _ _ h => h); (case hw_1 => rfl); (case hy_1 => (intro w' hSw; (try simp only [S] at hSw); go_simp; (try with_reducible rfl))); (case hs_1 => assumption); (try simp only [Act.put, List.setIfInBounds_toArray, List.set_cons_zero, List.set_cons_succ])
      refine wpAnyH_take (i := 1) (oi := ?oi_2) (v := ?v_2) ?ho_2 ?h1_2 ?h2_2 ?h3_2 ?hq_2 (Or.inl ⟨?hw_2, ?hy_2⟩) ?hs_2 ?rest_2; (case h2_2 => kernel_rfl); (case h3_2 => kernel_rfl); (case ho_2 => (simp only [List.getElem?_toArray, List.getElem?_cons_zero, List.getElem?_cons_succ]; rfl)); (case h1_2 => kernel_rfl); (case hq_2 => exact fun _ _ _ h => h); (case hw_2 => rfl); (case hy_2 => (intro w' hSw; (try simp only [S] at hSw); go_simp; (try with_reducible rfl))); (case hs_2 => assumption); (try simp only [Act.put, List.setIfInBounds_toArray, List.set_cons_zero, List.set_cons_succ])
      refine wpAnyH_take (i := 2) (oi := ?oi_3) (v := ?v_3) ?ho_3 ?h1_3 ?h2_3 ?h3_3 ?hq_3 (Or.inl ⟨?hw_3, ?hy_3⟩) ?hs_3 ?rest_3; (case h2_3 => kernel_rfl); (case h3_3 => kernel_rfl); (case ho_3 => (simp only [List.getElem?_toArray, List.getElem?_cons_zero, List.getElem?_cons_succ]; rfl)); (case h1_3 => kernel_rfl); (case hq_3 => exact fun _ _ _ h => h); (case hw_3 => rfl); (case hy_3 => (intro w' hSw; (try simp only [S] at hSw); go_simp; (try with_reducible rfl))); (case hs_3 => assumption); (try simp only [Act.put, List.setIfInBounds_toArray, List.set_cons_zero, List.set_cons_succ])
      refine wpAnyH_take (i := 3) (oi := ?oi_4) (v := ?v_4) ?ho_4 ?h1_4 ?h2_4 ?h3_4 ?hq_4 (Or.inl ⟨?hw_4, ?hy_4⟩) ?hs_4 ?rest_4; (case h2_4 => kernel_rfl); (case h3_4 => kernel_rfl); (case ho_4 => (simp only [List.getElem?_toArray, List.getElem?_cons_zero, List.getElem?_cons_succ]; rfl)); (case h1_4 => kernel_rfl); (case hq_4 => exact fun _ _ _ h => h); (case hw_4 => rfl); (case hy_4 => (intro w' hSw; (try simp only [S] at hSw); go_simp; (try with_reducible rfl))); (case hs_4 => assumption); (try simp only [Act.put, List.setIfInBounds_toArray, List.set_cons_zero, List.set_cons_succ])
      refine wpAnyH_take (i := 4) (oi := ?oi_32) (v := ?v_32) ?ho_32 ?h1_32 ?h2_32 ?h3_32 ?hq_32 (Or.inl ⟨?hw_32, ?hy_32⟩) ?hs_32 ?rest_32; (case h2_32 => kernel_rfl); (case h3_32 => kernel_rfl); (case ho_32 => (simp only [List.getElem?_toArray, List.getElem?_cons_zero, List.getElem?_cons_succ]; rfl)); (case h1_32 => kernel_rfl); (case hq_32 => exact fun _ _ _ h => h); (case hw_32 => rfl); (case hy_32 => (intro w' hSw; refine exec_load_row (x := .tmp 57) ?_ ?_ hSw.1 Try.underlying34 ?_ lD <;> rfl)); (case hs_32 => assumption); (try simp only [Act.put, List.setIfInBounds_toArray, List.set_cons_zero, List.set_cons_succ])
      refine wpAnyH_take (i := 5) (oi := ?oi_5) (v := ?v_5) ?ho_5 ?h1_5 ?h2_5 ?h3_5 ?hq_5 (Or.inl ⟨?hw_5, ?hy_5⟩) ?hs_5 ?rest_5; (case h2_5 => kernel_rfl); (case h3_5 => kernel_rfl); (case ho_5 => (simp only [List.getElem?_toArray, List.getElem?_cons_zero, List.getElem?_cons_succ]; rfl)); (case h1_5 => kernel_rfl); (case hq_5 => exact fun _ _ _ h => h); (case hw_5 => rfl); (case hy_5 => (intro w' hSw; (try simp only [S] at hSw); go_simp; (try with_reducible rfl))); (case hs_5 => assumption); (try simp only [Act.put, List.setIfInBounds_toArray, List.set_cons_zero, List.set_cons_succ])
      refine wpAnyH_take (i := 6) (oi := ?oi_6) (v := ?v_6) ?ho_6 ?h1_6 ?h2_6 ?h3_6 ?hq_6 (Or.inl ⟨?hw_6, ?hy_6⟩) ?hs_6 ?rest_6; (case h2_6 => kernel_rfl); (case h3_6 => kernel_rfl); (case ho_6 => (simp only [List.getElem?_toArray, List.getElem?_cons_zero, List.getElem?_cons_succ]; rfl)); (case h1_6 => kernel_rfl); (case hq_6 => exact fun _ _ _ h => h); (case hw_6 => rfl); (case hy_6 => (intro w' hSw; (try simp only [S] at hSw); go_simp; (try with_reducible rfl))); (case hs_6 => assumption); (try simp only [Act.put, List.setIfInBounds_toArray, List.set_cons_zero, List.set_cons_succ])
      refine wpAnyH_take (i := 7) (oi := ?oi_7) (v := ?v_7) ?ho_7 ?h1_7 ?h2_7 ?h3_7 ?hq_7 (Or.inl ⟨?hw_7, ?hy_7⟩) ?hs_7 ?rest_7; (case h2_7 => kernel_rfl); (case h3_7 => kernel_rfl); (case ho_7 => (simp only [List.getElem?_toArray, List.getElem?_cons_zero, List.getElem?_cons_succ]; rfl)); (case h1_7 => kernel_rfl); (case hq_7 => exact fun _ _ _ h => h); (case hw_7 => rfl); (case hy_7 => (intro w' hSw; (try simp only [S] at hSw); go_simp; (try with_reducible rfl))); (case hs_7 => assumption); (try simp only [Act.put, List.setIfInBounds_toArray, List.set_cons_zero, List.set_cons_succ])
      refine wpAnyH_take (i := 8) (oi := ?oi_8) (v := ?v_8) ?ho_8 ?h1_8 ?h2_8 ?h3_8 ?hq_8 (Or.inl ⟨?hw_8, ?hy_8⟩) ?hs_8 ?rest_8; (case h2_8 => kernel_rfl); (case h3_8 => kernel_rfl); (case ho_8 => (simp only [List.getElem?_toArray, List.getElem?_cons_zero, List.getElem?_cons_succ]; rfl)); (case h1_8 => kernel_rfl); (case hq_8 => exact fun _ _ _ h => h); (case hw_8 => rfl); (case hy_8 => (intro w' hSw; (try simp only [S] at hSw); go_simp; (try with_reducible rfl))); (case hs_8 => assumption); (try simp only [Act.put, List.setIfInBounds_toArray, List.set_cons_zero, List.set_cons_succ])
      refine wpAnyH_take (i := 9) (oi := ?oi_9) (v := ?v_9) ?ho_9 ?h1_9 ?h2_9 ?h3_9 ?hq_9 (Or.inl ⟨?hw_9, ?hy_9⟩) ?hs_9 ?rest_9; (case h2_9 => kernel_rfl); (case h3_9 => kernel_rfl); (case ho_9 => (simp only [List.getElem?_toArray, List.getElem?_cons_zero, List.getElem?_cons_succ]; rfl)); (case h1_9 => kernel_rfl); (case hq_9 => exact fun _ _ _ h => h); (case hw_9 => rfl); (case hy_9 => (intro w' hSw; (try simp only [S] at hSw); go_simp; (try with_reducible rfl))); (case hs_9 => assumption); (try simp only [Act.put, List.setIfInBounds_toArray, List.set_cons_zero, List.set_cons_succ])
      refine wpAnyH_take (i := 10) (oi := ?oi_10) (v := ?v_10) ?ho_10 ?h1_10 ?h2_10 ?h3_10 ?hq_10 (Or.inl ⟨?hw_10, ?hy_10⟩) ?hs_10 ?rest_10; (case h2_10 => kernel_rfl); (case h3_10 => kernel_rfl); (case ho_10 => (simp only [List.getElem?_toArray, List.getElem?_cons_zero, List.getElem?_cons_succ]; rfl)); (case h1_10 => kernel_rfl); (case hq_10 => exact fun _ _ _ h => h); (case hw_10 => rfl); (case hy_10 => (intro w' hSw; (try simp only [S] at hSw); go_simp; (try with_reducible rfl))); (case hs_10 => assumption); (try simp only [Act.put, List.setIfInBounds_toArray, List.set_cons_zero, List.set_cons_succ])
      refine wpAnyH_take (i := 11) (oi := ?oi_11) (v := ?v_11) ?ho_11 ?h1_11 ?h2_11 ?h3_11 ?hq_11 (Or.inl ⟨?hw_11, ?hy_11⟩) ?hs_11 ?rest_11; (case h2_11 => kernel_rfl); (case h3_11 => kernel_rfl); (case ho_11 => (simp only [List.getElem?_toArray, List.getElem?_cons_zero, List.getElem?_cons_succ]; rfl)); (case h1_11 => kernel_rfl); (case hq_11 => exact fun _ _ _ h => h); (case hw_11 => rfl); (case hy_11 => (intro w' hSw; (try simp only [S] at hSw); go_simp; (try with_reducible rfl))); (case hs_11 => assumption); (try simp only [Act.put, List.setIfInBounds_toArray, List.set_cons_zero, List.set_cons_succ])
      refine wpAnyH_take (i := 12) (oi := ?oi_12) (v := ?v_12) ?ho_12 ?h1_12 ?h2_12 ?h3_12 ?hq_12 (Or.inl ⟨?hw_12, ?hy_12⟩) ?hs_12 ?rest_12; (case h2_12 => kernel_rfl); (case h3_12 => kernel_rfl); (case ho_12 => (simp only [List.getElem?_toArray, List.getElem?_cons_zero, List.getElem?_cons_succ]; rfl)); (case h1_12 => kernel_rfl); (case hq_12 => exact fun _ _ _ h => h); (case hw_12 => rfl); (case hy_12 => (intro w' hSw; (try simp only [S] at hSw); go_simp; (try with_reducible rfl))); (case hs_12 => assumption); (try simp only [Act.put, List.setIfInBounds_toArray, List.set_cons_zero, List.set_cons_succ])
      refine wpAnyH_take (i := 13) (oi := ?oi_13) (v := ?v_13) ?ho_13 ?h1_13 ?h2_13 ?h3_13 ?hq_13 (Or.inl ⟨?hw_13, ?hy_13⟩) ?hs_13 ?rest_13; (case h2_13 => kernel_rfl); (case h3_13 => kernel_rfl); (case ho_13 => (simp only [List.getElem?_toArray, List.getElem?_cons_zero, List.getElem?_cons_succ]; rfl)); (case h1_13 => kernel_rfl); (case hq_13 => exact fun _ _ _ h => h); (case hw_13 => rfl); (case hy_13 => (intro w' hSw; (try simp only [S] at hSw); go_simp; (try with_reducible rfl))); (case hs_13 => assumption); (try simp only [Act.put, List.setIfInBounds_toArray, List.set_cons_zero, List.set_cons_succ])
      refine wpAnyH_take (i := 14) (oi := ?oi_14) (v := ?v_14) ?ho_14 ?h1_14 ?h2_14 ?h3_14 ?hq_14 (Or.inl ⟨?hw_14, ?hy_14⟩) ?hs_14 ?rest_14; (case h2_14 => kernel_rfl); (case h3_14 => kernel_rfl); (case ho_14 => (simp only [List.getElem?_toArray, List.getElem?_cons_zero, List.getElem?_cons_succ]; rfl)); (case h1_14 => kernel_rfl); (case hq_14 => exact fun _ _ _ h => h); (case hw_14 => rfl); (case hy_14 => (intro w' hSw; (try simp only [S] at hSw); go_simp; (try with_reducible rfl))); (case hs_14 => assumption); (try simp only [Act.put, List.setIfInBounds_toArray, List.set_cons_zero, List.set_cons_succ])
      refine wpAnyH_take (i := 15) (oi := ?oi_15) (v := ?v_15) ?ho_15 ?h1_15 ?h2_15 ?h3_15 ?hq_15 (Or.inl ⟨?hw_15, ?hy_15⟩) ?hs_15 ?rest_15; (case h2_15 => kernel_rfl); (case h3_15 => kernel_rfl); (case ho_15 => (simp only [List.getElem?_toArray, List.getElem?_cons_zero, List.getElem?_cons_succ]; rfl)); (case h1_15 => kernel_rfl); (case hq_15 => exact fun _ _ _ h => h); (case hw_15 => rfl); (case hy_15 => (intro w' hSw; (try simp only [S] at hSw); go_simp; (try with_reducible rfl))); (case hs_15 => assumption); (try simp only [Act.put, List.setIfInBounds_toArray, List.set_cons_zero, List.set_cons_succ])
      refine wpAnyH_take (i := 16) (oi := ?oi_16) (v := ?v_16) ?ho_16 ?h1_16 ?h2_16 ?h3_16 ?hq_16 (Or.inl ⟨?hw_16, ?hy_16⟩) ?hs_16 ?rest_16; (case h2_16 => kernel_rfl); (case h3_16 => kernel_rfl); (case ho_16 => (simp only [List.getElem?_toArray, List.getElem?_cons_zero, List.getElem?_cons_succ]; rfl)); (case h1_16 => kernel_rfl); (case hq_16 => exact fun _ _ _ h => h); (case hw_16 => rfl); (case hy_16 => (intro w' hSw; (try simp only [S] at hSw); go_simp; (try with_reducible rfl))); (case hs_16 => assumption); (try simp only [Act.put, List.setIfInBounds_toArray, List.set_cons_zero, List.set_cons_succ])
      refine wpAnyH_take (i := 17) (oi := ?oi_17) (v := ?v_17) ?ho_17 ?h1_17 ?h2_17 ?h3_17 ?hq_17 (Or.inl ⟨?hw_17, ?hy_17⟩) ?hs_17 ?rest_17; (case h2_17 => kernel_rfl); (case h3_17 => kernel_rfl); (case ho_17 => (simp only [List.getElem?_toArray, List.getElem?_cons_zero, List.getElem?_cons_succ]; rfl)); (case h1_17 => kernel_rfl); (case hq_17 => exact fun _ _ _ h => h); (case hw_17 => rfl); (case hy_17 => (intro w' hSw; (try simp only [S] at hSw); go_simp; (try with_reducible rfl))); (case hs_17 => assumption); (try simp only [Act.put, List.setIfInBounds_toArray, List.set_cons_zero, List.set_cons_succ])
      refine wpAnyH_take (i := 18) (oi := ?oi_33) (v := ?v_33) ?ho_33 ?h1_33 ?h2_33 ?h3_33 ?hq_33 (Or.inl ⟨?hw_33, ?hy_33⟩) ?hs_33 ?rest_33; (case h2_33 => kernel_rfl); (case h3_33 => kernel_rfl); (case ho_33 => (simp only [List.getElem?_toArray, List.getElem?_cons_zero, List.getElem?_cons_succ]; rfl)); (case h1_33 => kernel_rfl); (case hq_33 => exact fun _ _ _ h => h); (case hw_33 => rfl); (case hy_33 => (intro w' hSw; refine exec_built (t := 36) (parts := #[(0, .tmp 65), (1, .tmp 71)]) (cs := (bvs (usedT ua ub)).toArray) ?a18 ?b18 _; (case a18 => rfl); (case b18 => (simp only [List.map_toArray, List.map_cons, List.map_nil]; rw [used_bvs]; exact built_used _ _)))); (case hs_33 => assumption); (try simp only [Act.put, List.setIfInBounds_toArray, List.set_cons_zero, List.set_cons_succ])
      refine wpAnyH_take (i := 19) (oi := ?oi_18) (v := ?v_18) ?ho_18 ?h1_18 ?h2_18 ?h3_18 ?hq_18 (Or.inl ⟨?hw_18, ?hy_18⟩) ?hs_18 ?rest_18; (case h2_18 => kernel_rfl); (case h3_18 => kernel_rfl); (case ho_18 => (simp only [List.getElem?_toArray, List.getElem?_cons_zero, List.getElem?_cons_succ]; rfl)); (case h1_18 => kernel_rfl); (case hq_18 => exact fun _ _ _ h => h); (case hw_18 => rfl); (case hy_18 => (intro w' hSw; (try simp only [S] at hSw); go_simp; (try with_reducible rfl))); (case hs_18 => assumption); (try simp only [Act.put, List.setIfInBounds_toArray, List.set_cons_zero, List.set_cons_succ])
      refine wpAnyH_ready (rs := [20]) (by kernel_rfl) (by simp) (AllReadyH.cons (o := ?oo20_34) ?hoo20_34 (fun K hK => ?steponly34) AllReadyH.nil); (case hoo20_34 => (simp only [List.getElem?_toArray, List.getElem?_cons_zero, List.getElem?_cons_succ]; rfl))
      refine step_store_mid rfl 34 (.tmp 73) (.tmp 58) rfl wr.heap.size 3 (bvs x.log).toArray rfl rfl (there_blk (W := Y1.drew) r9 (by rw [s9, List.size_toArray, bvs_len, hlogl]; omega)) (by rw [List.size_toArray]; exact lD) (all_oneCell_toArray (oneCell_bvs _)) ?_
      have d9 := blk_sets (bvs x.log) 3 (W := Y1.drew) r9
      have od1 : (Y1.drew.setCells wr.heap.size 3 (bvs x.log)).heap[b1]? = wr.heap[b1]? := (sets_far (bvs x.log) Y1.drew wr.heap.size 3 b1 (by omega)).trans ob1
      have od2 : (Y1.drew.setCells wr.heap.size 3 (bvs x.log)).heap[b2]? = wr.heap[b2]? := (sets_far (bvs x.log) Y1.drew wr.heap.size 3 b2 (by omega)).trans ob2
      have bd : But Y.heap.size (· = wr.heap.size) Y (Y1.drew.setCells wr.heap.size 3 (bvs x.log)) := but_sets (X := (· = wr.heap.size)) _ _ _ bY1.drew rfl
      refine hK.out _ _ (HS.out _ od1) (fun _ => ?_)
      clear hK K
      (try simp only [Act.put, List.setIfInBounds_toArray, List.set_cons_zero, List.set_cons_succ])
      refine wpAnyH_take (i := 21) (oi := ?oi_19) (v := ?v_19) ?ho_19 ?h1_19 ?h2_19 ?h3_19 ?hq_19 (Or.inl ⟨?hw_19, ?hy_19⟩) ?hs_19 ?rest_19; (case h2_19 => kernel_rfl); (case h3_19 => kernel_rfl); (case ho_19 => (simp only [List.getElem?_toArray, List.getElem?_cons_zero, List.getElem?_cons_succ]; rfl)); (case h1_19 => kernel_rfl); (case hq_19 => exact fun _ _ _ h => h); (case hw_19 => rfl); (case hy_19 => (intro w' hSw; (try simp only [S] at hSw); go_simp; (try with_reducible rfl))); (case hs_19 => assumption); (try simp only [Act.put, List.setIfInBounds_toArray, List.set_cons_zero, List.set_cons_succ])
      refine wpAnyH_ready (rs := [22]) (by kernel_rfl) (by simp) (AllReadyH.cons (o := ?oo22_35) ?hoo22_35 (fun K hK => ?steponly35) AllReadyH.nil); (case hoo22_35 => (simp only [List.getElem?_toArray, List.getElem?_cons_zero, List.getElem?_cons_succ]; rfl))
      refine step_store_mid rfl 36 (.tmp 74) (.tmp 72) rfl wr.heap.size 35 (bvs (usedT ua ub)).toArray rfl rfl (there_blk d9 (by rw [setMany_size, s9, List.size_toArray, bvs_len, usedT_len]; omega)) (by rw [List.size_toArray]; exact lU) (all_oneCell_toArray (oneCell_bvs _)) ?_
      have e9 := blk_sets (bvs (usedT ua ub)) 35 d9
      rw [HF.out] at e9
      have oe1 := (sets_far (bvs (usedT ua ub)) (Y1.drew.setCells wr.heap.size 3 (bvs x.log)) wr.heap.size 35 b1 (by omega)).trans od1
      have oe2 := (sets_far (bvs (usedT ua ub)) (Y1.drew.setCells wr.heap.size 3 (bvs x.log)) wr.heap.size 35 b2 (by omega)).trans od2
      have be : But Y.heap.size (· = wr.heap.size) Y ((Y1.drew.setCells wr.heap.size 3 (bvs x.log)).setCells wr.heap.size 35 (bvs (usedT ua ub))) := but_sets (X := (· = wr.heap.size)) _ _ _ bd rfl
      refine hK.out _ _ (HS.out _ oe1) (fun _ => ?_)
      clear hK K
      (try simp only [Act.put, List.setIfInBounds_toArray, List.set_cons_zero, List.set_cons_succ])
      generalize (Y1.drew.setCells wr.heap.size 3 (bvs x.log)).setCells wr.heap.size 35 (bvs (usedT ua ub)) = Y2 at *
      refine wpAnyH_done (by kernel_rfl) ?_ _
      clear hor lD lU r9 s9 d9 od1 od2 bd HF bY1 ob1 ob2 u0 u1 r3
      -- s.Root
      have r22 : Y2.cell? ⟨b1, o1 + k * 51 + 2, none⟩ = some (.int .i64 x.root) := (World.cell?_of_block (a := ⟨b1, o1 + k * 51 + 2, none⟩) oe1).trans r2
      have hmod := mod_any x.root 14 (by omega) (by omega) hroot Y2
      have m1 : 0 ≤ x.root % 14 := by omega
      have m2 : x.root % 14 < 14 := by omega
      have c9 : Y2.cell? ⟨wr.heap.size, 2, none⟩ = some (.int .i64 L.root) := blk_cell e9 rfl
      have f9 := blk_frozen e9 2
      have HM := Lib.hid (And.intro m1 m2)
      obtain ⟨rm, hrm⟩ : ∃ r, x.root % 14 = r := ⟨_, rfl⟩
      have HR := Lib.hid hrm
      rw [show ((14 : Nat) : Int) = 14 from rfl, hrm] at hmod
      rw [hrm] at m1 m2
      clear hrm oe1 eb1
      go_upto_region 14 with (first
        | (go_at_call 29; refine Calls.mono hmod ?_; rintro e W' ⟨rfl, rfl⟩)
        | fail)
      have r9 := blk_set e9 2 (.int .i64 (rm + 2))
      rw [root_set] at r9
      have hfin : (SP.mk (L.gen + 1) L.blocks (rm + 2) x.log (usedT ua ub)) = NS := by rw [← HNS.out, ← HR.out, hI.bl]; rfl
      rw [hfin] at r9
      obtain ⟨Y3, hY⟩ : ∃ X, Y2.setCell ⟨wr.heap.size, 2, none⟩ (.int .i64 (rm + 2)) = X := ⟨_, rfl⟩
      have bY3 : But Y.heap.size (· = wr.heap.size) Y Y3 := by rw [← hY]; exact be.set (X := (· = wr.heap.size)) (p := ⟨wr.heap.size, 2, none⟩) rfl _
      have ob2 : Y3.heap[b2]? = wr.heap[b2]? := (bY3.block _ (by omega) (by omega)).trans eb2
      rw [hY] at r9
      try rw [hY]
      replace hk : Dk Y3 w.heap.size (w.heap.size + 1) w.heap.size v d := hk.kept bY3 (Nat.le_refl _) (fun j e hj => by have := hGd j hj; omega)
      replace q7 : Rw Y3 (w.heap.size + 1) w.heap.size v g7 L.cells.toArray 38 := ⟨bY3.blk (by have := q7.lt; omega) (fun e => by omega) q7.at_, q7.no⟩
      replace q9 : Rw Y3 (w.heap.size + 1) w.heap.size v wr.heap.size NS.cells.toArray 38 := ⟨r9, q9.no⟩
      have hB3 : Below w.heap.size w Y3 := hBY.trans (bY3.below hBY.size (fun j e => by omega))
      clear hY hfin r9 be bY3 e9 c9 f9 hmod r22 m1 m2 eb2 hBY
      -- the fuse
      have y1 : Y3.cell? ⟨b2, o2 + k * 4 + 1, none⟩ = some (.int .i64 y.i) := (World.cell?_of_block (a := ⟨b2, o2 + k * 4 + 1, none⟩) ob2).trans z1
      have hfu := fuse_any hk y.i yi63.2
      unfold dp at hfu
      go_upto_region 15 with (first
        | (go_at_call 25; refine Calls.mono hfu ?_; rintro e X2 ⟨rfl, hk2, hs2⟩)
        | fail)
      have st2 := DStep.of_but (B := w.heap.size) (v := v) hs2
      replace q7 := q7.step st2
      replace q9 := q9.step st2
      have ob3 : X2.heap[b2]? = wr.heap[b2]? := (hs2.block _ (by have := hB3.size; omega) (fun e => by have := hGe _ (.inl e); omega)).trans ob2
      have hB4 := hB3.trans (st2.below hk)
      have hdf : (d.fuseTo y.i).done = d.done := rfl
      have hlf : (d.fuseTo y.i).lo.length = d.lo.length := rfl
      have hlo0 : d.lo = [] := hI.fr.lo
      clear hfu hs2 st2 ob2 hB3 y1 hk
      -- Write
      have hw := sput_any hk2 (by rw [hdf]; omega) (by rw [hlf, hlo0]; simp) hNok
      have hpd := put_le (d.fuseTo y.i) NS
      unfold dp spv at hw
      have q90 := q9.at_
      have z9 := hk2.lt
      go_upto_region 16 with (first
        | (refine wpList_load_row rfl 38 (.tmp 9) rfl _ rfl _ NS.cells.toArray (0, 0) _ q90 Try.underlying38 rfl iN ?_)
        | (go_at_call 19; refine Calls.mono hw ?_; rintro e X3 ⟨rfl, v3, hk3, hs3⟩)
        | fail)
      replace q7 := q7.step hs3
      replace q9 := q9.step hs3
      have ob4 : X3.heap[b2]? = wr.heap[b2]? := (hs3.but.block _ (by have := hB4.size; omega) (fun e => by have := hGe _ e; omega)).trans ob3
      have hB5 := hB4.trans (hs3.below hk2)
      have hlp : ((d.fuseTo y.i).putS NS).lo.length ≤ 1 := by rw [hlf, hlo0] at hpd; exact hpd.2
      clear hw q90 hs3 ob3 z9 hB4 hk2
      obtain ⟨pe, hpe⟩ : ∃ e, (d.fuseTo y.i).putE NS = e := ⟨_, rfl⟩
      have HPE := Lib.hid hpe
      rw [hpe]
      clear hpe
      obtain ⟨dp3, hdp3⟩ : ∃ e, (d.fuseTo y.i).putS NS = e := ⟨_, rfl⟩
      have HDP := Lib.hid hdp3
      rw [hdp3] at hk3 hlp
      clear hdp3
      -- Crash
      have hzX3 := hB5.size
      have hG3 : ∀ j, Own (w.heap.size + 1) w.heap.size v3 j → j < X3.heap.size := fun j hj => (hk3.own_ge j hj).2
      let S : World → Prop := fun w' => w'.cell? ⟨b2, o2 + k * 4 + 1, none⟩ = some (.int .i64 y.i) ∧ w'.cell? ⟨b2, o2 + k * 4 + 3, none⟩ = some (.slice y.A y.keep.length y.c)
      have HS2 : Hid (∀ w', w'.heap[b2]? = wr.heap[b2]? → S w') := Lib.hid fun w' h => ⟨(World.cell?_of_block (a := ⟨b2, o2 + k * 4 + 1, none⟩) h).trans z1, (World.cell?_of_block (a := ⟨b2, o2 + k * 4 + 3, none⟩) h).trans z3⟩
      have hS20 : S X3.drew := HS2.out _ ob4
      obtain ⟨W1, hW1⟩ : ∃ W1, (X3.alloc (.cells #[] 5)).drew = W1 := ⟨_, rfl⟩
      have hb1 : Below X3.heap.size X3 W1 := by rw [← hW1]; exact ((Below.refl _ _).alloc (Nat.le_refl _) _).drew
      have hrow0 : W1.ownsRow X3.heap.size 5 1 (.slice (some ⟨X3.heap.size, 0, none⟩) 0 0) 0 [] := by rw [← hW1]; exact (own_none' X3 X3.heap.size 5 1 (Nat.le_refl _)).drew
      have hxs1 := (ykp.below (B := w.heap.size) hB5).below (hb1.mono (by omega))
      have hzW1 : X3.heap.size + 1 ≤ W1.heap.size := by rw [← hW1]; show _ ≤ (X3.alloc _).heap.size; simp
      obtain ⟨A2, c2, W2, hrun, hrow2, hg2, hat2⟩ := run_app (P := Try.prog) W1 (ty := 41) (t := 41) Try.underlying41 elemC hrow0 hxs1 (c := y.c) (oneCell_bvs _) (by simp only [maxLen]; omega) (by omega) (by omega)
      rw [Nat.zero_add, List.nil_append] at hrow2
      rw [Nat.zero_add] at hrun hat2
      have hb2 : Below X3.heap.size W1 W2 := (Below.refl _ _).grown hg2 (by omega) (fun j hj => by simp [Value.ownBlock] at hj; omega)
      have hbY2 := hb1.trans hb2
      have hk4 := hk3.below hbY2
      have hB6 := hB5.trans (hbY2.mono hzX3)
      have e1 : W1.heap[b2]? = wr.heap[b2]? := (hb1.block _ (by omega)).trans ob4
      have e2 : W2.heap[b2]? = wr.heap[b2]? := (hbY2.block _ (by omega)).trans ob4
      have hA2 : ∀ b o, 0 < y.keep.length → A2 = some ⟨b, o, none⟩ → ¬ Own (w.heap.size + 1) w.heap.size v3 b := fun b o _ e hj => by
        have h1 := hG3 b hj
        have h2 := (hrow2.lt b (by rw [e]; rfl)).1
        omega
      have hmd := fun W => mod_any y.i 3 (by omega) (by omega) yi63 W
      have m1 : 0 ≤ y.i % 3 := by omega
      have m2 : y.i % 3 < 3 := by omega
      obtain ⟨tm, htm⟩ : ∃ r, y.i % 3 = r := ⟨_, rfl⟩
      rw [htm] at m1 m2
      rw [show ((3 : Nat) : Int) = 3 from rfl, htm] at hmd
      have hcr := crash_any hk4 (by omega) y.keep A2 c2 (by omega) (Sl.of_own hrow2) hA2 (tm - 1)
      unfold dp at hcr
      have hS21 := HS2.out _ e1
      have hS22 := HS2.out _ e2
      replace q7 := q7.below hbY2
      replace q9 := q9.below hbY2
      have HR2 := Lib.hid (And.intro hB6 (And.intro hk4 e2))
      clear htm hrow0 hrow2 hg2 hat2 hA2 hB6 e1 e2 hb1 hb2 hbY2 hzW1 hxs1 hk4
      go_upto_region 16 with (fail)
      refine wp_region_held (S := S) (by kernel_rfl) ?_
      change wpAnyH _ _ _ _ S _ _ _ X3.drew
      refine wpAnyH_take (i := 0) (oi := ?oi_20) (v := ?v_20) ?ho_20 ?h1_20 ?h2_20 ?h3_20 ?hq_20 (Or.inl ⟨?hw_20, ?hy_20⟩) ?hs_20 ?rest_20; (case h2_20 => kernel_rfl); (case h3_20 => kernel_rfl); (case ho_20 => (simp only [List.getElem?_toArray, List.getElem?_cons_zero, List.getElem?_cons_succ]; rfl)); (case h1_20 => kernel_rfl); (case hq_20 => exact fun _ _ _ h => h); (case hw_20 => rfl); (case hy_20 => (intro w' hSw; (try simp only [S] at hSw); go_simp; (try with_reducible rfl))); (case hs_20 => assumption); (try simp only [Act.put, List.setIfInBounds_toArray, List.set_cons_zero, List.set_cons_succ])
      refine wpAnyH_take (i := 2) (oi := ?oi_21) (v := ?v_21) ?ho_21 ?h1_21 ?h2_21 ?h3_21 ?hq_21 (Or.inl ⟨?hw_21, ?hy_21⟩) ?hs_21 ?rest_21; (case h2_21 => kernel_rfl); (case h3_21 => kernel_rfl); (case ho_21 => (simp only [List.getElem?_toArray, List.getElem?_cons_zero, List.getElem?_cons_succ]; rfl)); (case h1_21 => kernel_rfl); (case hq_21 => exact fun _ _ _ h => h); (case hw_21 => rfl); (case hy_21 => (intro w' hSw; (try simp only [S] at hSw); go_simp; (try with_reducible rfl))); (case hs_21 => assumption); (try simp only [Act.put, List.setIfInBounds_toArray, List.set_cons_zero, List.set_cons_succ])
      refine wpAnyH_take (i := 3) (oi := ?oi_22) (v := ?v_22) ?ho_22 ?h1_22 ?h2_22 ?h3_22 ?hq_22 (Or.inl ⟨?hw_22, ?hy_22⟩) ?hs_22 ?rest_22; (case h2_22 => kernel_rfl); (case h3_22 => kernel_rfl); (case ho_22 => (simp only [List.getElem?_toArray, List.getElem?_cons_zero, List.getElem?_cons_succ]; rfl)); (case h1_22 => kernel_rfl); (case hq_22 => exact fun _ _ _ h => h); (case hw_22 => rfl); (case hy_22 => (intro w' hSw; (try simp only [S] at hSw); go_simp; (try with_reducible rfl))); (case hs_22 => assumption); (try simp only [Act.put, List.setIfInBounds_toArray, List.set_cons_zero, List.set_cons_succ])
      refine wpAnyH_take (i := 4) (oi := ?oi_23) (v := ?v_23) ?ho_23 ?h1_23 ?h2_23 ?h3_23 ?hq_23 (Or.inl ⟨?hw_23, ?hy_23⟩) ?hs_23 ?rest_23; (case h2_23 => kernel_rfl); (case h3_23 => kernel_rfl); (case ho_23 => (simp only [List.getElem?_toArray, List.getElem?_cons_zero, List.getElem?_cons_succ]; rfl)); (case h1_23 => kernel_rfl); (case hq_23 => exact fun _ _ _ h => h); (case hw_23 => rfl); (case hy_23 => (intro w' hSw; (try simp only [S] at hSw); go_simp; (try with_reducible rfl))); (case hs_23 => assumption); (try simp only [Act.put, List.setIfInBounds_toArray, List.set_cons_zero, List.set_cons_succ])
      refine wpAnyH_take (i := 5) (oi := ?oi_24) (v := ?v_24) ?ho_24 ?h1_24 ?h2_24 ?h3_24 ?hq_24 (Or.inl ⟨?hw_24, ?hy_24⟩) ?hs_24 ?rest_24; (case h2_24 => kernel_rfl); (case h3_24 => kernel_rfl); (case ho_24 => (simp only [List.getElem?_toArray, List.getElem?_cons_zero, List.getElem?_cons_succ]; rfl)); (case h1_24 => kernel_rfl); (case hq_24 => exact fun _ _ _ h => h); (case hw_24 => rfl); (case hy_24 => (intro w' hSw; (try simp only [S] at hSw); go_simp; (try with_reducible rfl))); (case hs_24 => assumption); (try simp only [Act.put, List.setIfInBounds_toArray, List.set_cons_zero, List.set_cons_succ])
      refine wpAnyH_take (i := 6) (oi := ?oi_25) (v := ?v_25) ?ho_25 ?h1_25 ?h2_25 ?h3_25 ?hq_25 (Or.inl ⟨?hw_25, ?hy_25⟩) ?hs_25 ?rest_25; (case h2_25 => kernel_rfl); (case h3_25 => kernel_rfl); (case ho_25 => (simp only [List.getElem?_toArray, List.getElem?_cons_zero, List.getElem?_cons_succ]; rfl)); (case h1_25 => kernel_rfl); (case hq_25 => exact fun _ _ _ h => h); (case hw_25 => rfl); (case hy_25 => (intro w' hSw; (try simp only [S] at hSw); go_simp; (try with_reducible rfl))); (case hs_25 => assumption); (try simp only [Act.put, List.setIfInBounds_toArray, List.set_cons_zero, List.set_cons_succ])
      refine wpAnyH_take (i := 8) (oi := ?oi_26) (v := ?v_26) ?ho_26 ?h1_26 ?h2_26 ?h3_26 ?hq_26 (Or.inl ⟨?hw_26, ?hy_26⟩) ?hs_26 ?rest_26; (case h2_26 => kernel_rfl); (case h3_26 => kernel_rfl); (case ho_26 => (simp only [List.getElem?_toArray, List.getElem?_cons_zero, List.getElem?_cons_succ]; rfl)); (case h1_26 => kernel_rfl); (case hq_26 => exact fun _ _ _ h => h); (case hw_26 => rfl); (case hy_26 => (intro w' hSw; (try simp only [S] at hSw); go_simp; (try with_reducible rfl))); (case hs_26 => assumption); (try simp only [Act.put, List.setIfInBounds_toArray, List.set_cons_zero, List.set_cons_succ])
      refine wpAnyH_take (i := 9) (oi := ?oi_27) (v := ?v_27) ?ho_27 ?h1_27 ?h2_27 ?h3_27 ?hq_27 (Or.inl ⟨?hw_27, ?hy_27⟩) ?hs_27 ?rest_27; (case h2_27 => kernel_rfl); (case h3_27 => kernel_rfl); (case ho_27 => (simp only [List.getElem?_toArray, List.getElem?_cons_zero, List.getElem?_cons_succ]; rfl)); (case h1_27 => kernel_rfl); (case hq_27 => exact fun _ _ _ h => h); (case hw_27 => rfl); (case hy_27 => (intro w' hSw; (try simp only [S] at hSw); go_simp; (try with_reducible rfl))); (case hs_27 => assumption); (try simp only [Act.put, List.setIfInBounds_toArray, List.set_cons_zero, List.set_cons_succ])
      refine wpAnyH_take (i := 10) (oi := ?oi_28) (v := ?v_28) ?ho_28 ?h1_28 ?h2_28 ?h3_28 ?hq_28 (Or.inl ⟨?hw_28, ?hy_28⟩) ?hs_28 ?rest_28; (case h2_28 => kernel_rfl); (case h3_28 => kernel_rfl); (case ho_28 => (simp only [List.getElem?_toArray, List.getElem?_cons_zero, List.getElem?_cons_succ]; rfl)); (case h1_28 => kernel_rfl); (case hq_28 => exact fun _ _ _ h => h); (case hw_28 => rfl); (case hy_28 => (intro w' hSw; (try simp only [S] at hSw); go_simp; (try with_reducible rfl))); (case hs_28 => assumption); (try simp only [Act.put, List.setIfInBounds_toArray, List.set_cons_zero, List.set_cons_succ])
      refine wpAnyH_take (i := 11) (oi := ?oi_29) (v := ?v_29) ?ho_29 ?h1_29 ?h2_29 ?h3_29 ?hq_29 (Or.inl ⟨?hw_29, ?hy_29⟩) ?hs_29 ?rest_29; (case h2_29 => kernel_rfl); (case h3_29 => kernel_rfl); (case ho_29 => (simp only [List.getElem?_toArray, List.getElem?_cons_zero, List.getElem?_cons_succ]; rfl)); (case h1_29 => kernel_rfl); (case hq_29 => exact fun _ _ _ h => h); (case hw_29 => rfl); (case hy_29 => (intro w' hSw; (try simp only [S] at hSw); go_simp; (try with_reducible rfl))); (case hs_29 => assumption); (try simp only [Act.put, List.setIfInBounds_toArray, List.set_cons_zero, List.set_cons_succ])
      refine wpAnyH_take (i := 12) (oi := ?oi_30) (v := ?v_30) ?ho_30 ?h1_30 ?h2_30 ?h3_30 ?hq_30 (Or.inl ⟨?hw_30, ?hy_30⟩) ?hs_30 ?rest_30; (case h2_30 => kernel_rfl); (case h3_30 => kernel_rfl); (case ho_30 => (simp only [List.getElem?_toArray, List.getElem?_cons_zero, List.getElem?_cons_succ]; rfl)); (case h1_30 => kernel_rfl); (case hq_30 => exact fun _ _ _ h => h); (case hw_30 => rfl); (case hy_30 => (intro w' hSw; (try simp only [S] at hSw); go_simp; (try with_reducible rfl))); (case hs_30 => assumption); (try simp only [Act.put, List.setIfInBounds_toArray, List.set_cons_zero, List.set_cons_succ])
      refine wpAnyH_ready (rs := [1]) (by kernel_rfl) (by simp) (AllReadyH.cons (o := ?oo1_36) ?hoo1_36 (fun K hK => ?steponly36) AllReadyH.nil); (case hoo1_36 => (simp only [List.getElem?_toArray, List.getElem?_cons_zero, List.getElem?_cons_succ]; rfl))
      go_simp
      refine hK.out _ _ hS21 (fun _ => ?_)
      clear hK K
      (try simp only [Act.put, List.setIfInBounds_toArray, List.set_cons_zero, List.set_cons_succ])
      refine wpAnyH_ready (rs := [7]) (by kernel_rfl) (by simp) (AllReadyH.cons (o := ?oo7_37) ?hoo7_37 (fun K hK => ?steponly37) AllReadyH.nil); (case hoo7_37 => (simp only [List.getElem?_toArray, List.getElem?_cons_zero, List.getElem?_cons_succ]; rfl))
      go_simp
      refine hK.out _ _ hS22 (fun _ => ?_)
      clear hK K
      (try simp only [Act.put, List.setIfInBounds_toArray, List.set_cons_zero, List.set_cons_succ])
      refine wpAnyH_ready (rs := [13]) (by kernel_rfl) (by simp) (AllReadyH.cons (o := ?oo13_38) ?hoo13_38 (fun K hK => ?steponly38) AllReadyH.nil); (case hoo13_38 => (simp only [List.getElem?_toArray, List.getElem?_cons_zero, List.getElem?_cons_succ]; rfl))
      go_simp
      refine (hmd _).mono ?_
      rintro e W' ⟨rfl, rfl⟩
      refine hK.out _ _ hS22 (fun _ => ?_)
      clear hK K
      (try simp only [Act.put, List.setIfInBounds_toArray, List.set_cons_zero, List.set_cons_succ])
      have hwt : IntKind.i64.wrap (tm - 1) = tm - 1 := IntWalk.i64_in _ (by omega)
      refine wpAnyH_take (i := 14) (oi := ?oi_31) (v := ?v_31) ?ho_31 ?h1_31 ?h2_31 ?h3_31 ?hq_31 (Or.inl ⟨?hw_31, ?hy_31⟩) ?hs_31 ?rest_31; (case h2_31 => kernel_rfl); (case h3_31 => kernel_rfl); (case ho_31 => (simp only [List.getElem?_toArray, List.getElem?_cons_zero, List.getElem?_cons_succ]; rfl)); (case h1_31 => kernel_rfl); (case hq_31 => exact fun _ _ _ h => h); (case hw_31 => rfl); (case hy_31 => (intro w' hSw; (try simp only [S] at hSw); go_simp; (try with_reducible rfl))); (case hs_31 => assumption); (try simp only [Act.put, List.setIfInBounds_toArray, List.set_cons_zero, List.set_cons_succ])
      clear hwt
      refine wpAnyH_ready (rs := [15]) (by kernel_rfl) (by simp) (AllReadyH.cons (o := ?oo15_39) ?hoo15_39 (fun K hK => ?steponly39) AllReadyH.nil); (case hoo15_39 => (simp only [List.getElem?_toArray, List.getElem?_cons_zero, List.getElem?_cons_succ]; rfl))
      go_simp
      refine hcr.mono ?_
      rintro e X4 ⟨rfl, v4, hk5, hs5⟩
      have hB7 := HR2.out.1.trans (hs5.below HR2.out.2.1)
      have e3 : X4.heap[b2]? = wr.heap[b2]? := (hs5.but.block _ (by have := HR2.out.1.size; omega) (fun hj => by have := (HR2.out.2.1.own_ge _ hj).1; omega)).trans HR2.out.2.2
      refine hK.out _ _ (HS2.out _ e3) (fun _ => ?_)
      clear hK K
      (try simp only [Act.put, List.setIfInBounds_toArray, List.set_cons_zero, List.set_cons_succ])
      refine wpAnyH_done (by kernel_rfl) ?_ _
      replace q7 := q7.step hs5
      replace q9 := q9.step hs5
      obtain ⟨N, hI5, hd5, hN⟩ := hI.next hNok hNg (by rw [← HNS.out]; rfl) (by rw [← HNS.out]; rfl) y.i y.keep (tm - 1)
      rw [HDP.out] at hI5 hd5
      rw [HPE.out] at hN
      obtain ⟨n1, n2⟩ := hI5.newest
      have hnw := newest_any hk5 (by rw [hI5.fr.lo]; simp)
      rw [n1, n2] at hnw
      have oN := hI5.ok
      have iNN := sp_info oN
      have zN := sp_sizes sp0_ok oN
      have hng : NS.gen = L.gen + 1 := by rw [← HNS.out]; rfl
      unfold dp spv at hnw
      clear n1 n2 hcr hmd hrun hW1 hS20 hS21 hS22 hS0 hs5 e3 HR2 ob4 z1 z3 r2 hk3 hB5
      -- Newest
      go_wp2_with fail
      refine Calls.mono hnw ?_
      rintro e X5 ⟨rfl, hb5⟩
      replace q7 := q7.below hb5
      replace q9 := q9.below hb5
      replace hk5 := hk5.below hb5
      have hB8 := hB7.trans (hb5.mono hB7.size)
      obtain ⟨Y5, hY, r11, bY5⟩ := newRow X5 sp0.cells.toArray N.cells.toArray 38
      have q11 := Rw.new hk5 (Nat.le_refl _) r11
      replace q7 := q7.below bY5
      replace q9 := q9.below bY5
      replace hk5 := hk5.below bY5
      replace hB8 := hB8.trans (bY5.mono hB8.size)
      clear hb5 bY5 hB7 r11 hnw
      go_upto_region 18 with (first
        | (refine wpList_new rfl spZ rfl ?_)
        | (refine wpList_store_row rfl 38 (.tmp 11) (.tmp 112) rfl _ N.cells.toArray rfl rfl _ sp0.cells.toArray (heap_alloc_new _ _) iNN zN (all_oneCell_toArray (one_sp _)) ?_)
        | fail)
      try rw [hY]
      clear hY
      obtain ⟨cN, hcN⟩ : ∃ cc, N.cells.toArray = cc := ⟨_, rfl⟩
      obtain ⟨cS, hcS⟩ : ∃ cc, NS.cells.toArray = cc := ⟨_, rfl⟩
      obtain ⟨cL, hcL⟩ : ∃ cc, L.cells.toArray = cc := ⟨_, rfl⟩
      have a7 := q7.at_
      have a9 := q9.at_
      have a11 := q11.at_
      have hsz2 : L.cells.toArray.size = N.cells.toArray.size := sp_sizes oL oN
      have h1N : cN.all (·.oneCell') = true := by rw [← hcN]; exact all_oneCell_toArray (one_sp _)
      have iLL := iL
      rw [hcL] at a7 hsz2 iLL
      rw [hcS] at a9 iN
      rw [hcN] at a11 iNN hsz2
      have r7 : (Y5.setRow g7 cN).heap[g7]? = some (.cells N.cells.toArray 38) := by rw [hcN]; exact setRow_heap _ _ _ _ _ _ a7
      have hkF : Dk (Y5.setRow g7 cN) w.heap.size (w.heap.size + 1) w.heap.size v4 (dp3.crash y.keep (tm - 1)) := hk5.kept (but_setRow (X := (· = g7)) (But.refl Y5.heap.size _ _) rfl _) (Nat.le_refl _) (fun j e => e ▸ q7.no)
      have hBF : Below w.heap.size w (Y5.setRow g7 cN) := bSetRow hB8 (by omega) _
      have hgF : N.gen ≤ 2 + (k + 1) := by rcases hN with e | e; rw [e, hng]; omega; rw [e.1]; omega
      have hdF : (dp3.crash y.keep (tm - 1)).done ≤ 2 + 2 * (k + 1) := by omega
      have FIN := Lib.hid (And.intro hkF (And.intro hI5 (And.intro hgF (And.intro hdF (And.intro (Rw.mk r7 q7.no : Rw (Y5.setRow g7 cN) (w.heap.size + 1) w.heap.size v4 g7 N.cells.toArray 38) hBF)))))
      clear r7 hkF hBF hgF hdF q7 q9 q11 hk5 hB8 hd5
      rcases hN with hN | hN
      ·
        have hq1 : ∀ w, (Op.equalIn 10000 38 (.agg cN) (.agg cS)).run Try.prog w = .ok true w := fun w => by rw [← hcN, ← hcS, sp_eq oN hNok, hN, eqS_same]
        clear hN hcN hcS hcL hNok hNg oN oL hI5 hI oX
        refine wp_region_lit ?_
        iterate 9 (first | go_guarded | go_step)
        refine wpList_load_row_g (by simp [Region.wanted, yielded, Act.put]) 38 (.tmp 11) rfl _ rfl _ cN (0, 0) _ a11 Try.underlying38 rfl iNN ?_
        (try simp only [Act.put, List.setIfInBounds_toArray, List.set_cons_zero, List.set_cons_succ])
        refine wpList_load_row_g (by simp [Region.wanted, yielded, Act.put]) 38 (.tmp 9) rfl _ rfl _ cS (0, 0) _ a9 Try.underlying38 rfl iN ?_
        (try simp only [Act.put, List.setIfInBounds_toArray, List.set_cons_zero, List.set_cons_succ])
        iterate 6 (first | go_guarded | go_step)
        go_upto_region 20 with (fail)
        refine wp_region_lit ?_
        refine wpList_load_row rfl 38 (.tmp 11) rfl _ rfl _ cN (0, 0) _ a11 Try.underlying38 rfl iNN ?_
        (try simp only [Act.put, List.setIfInBounds_toArray, List.set_cons_zero, List.set_cons_succ])
        refine wpList_store_row rfl 38 (.tmp 7) (.tmp 130) rfl _ cN rfl rfl _ cL a7 iNN hsz2 h1N ?_
        (try simp only [Act.put, List.setIfInBounds_toArray, List.set_cons_zero, List.set_cons_succ])
        go_wp2_with fail
        go_roundw
        case rel => exact ⟨k + 1, _, N, v4, by go_num, by omega, FIN.out.1, FIN.out.2.1, FIN.out.2.2.1, FIN.out.2.2.2.1, FIN.out.2.2.2.2.1, FIN.out.2.2.2.2.2⟩
        case measure => simp [intOf]; omega
      ·
        have hq1 : ∀ w, (Op.equalIn 10000 38 (.agg cN) (.agg cS)).run Try.prog w = .ok false w := fun w => by
          rw [← hcN, ← hcS, sp_eq oN hNok]
          have : ¬ eqS N NS = true := fun e => by have e2 := eqS_iff.1 e; rw [hN.1] at e2; rw [← e2] at hng; omega
          rw [Bool.not_eq_true] at this
          rw [this]
        have hq2 : ∀ w, (Op.equalIn 10000 38 (.agg cN) (.agg cL)).run Try.prog w = .ok true w := fun w => by rw [← hcN, ← hcL, sp_eq oN oL, hN.1, eqS_same]
        have hpe1 : (pe == 0) = false := by simpa using hN.2
        have hpe2 : decide (pe = 0) = false := by simpa using hN.2
        clear hN hcN hcS hcL hNok hNg oN oL hI5 hI oX
        refine wp_region_lit ?_
        iterate 9 (first | go_guarded | go_step)
        refine wpList_load_row_g (by simp [Region.wanted, yielded, Act.put]) 38 (.tmp 11) rfl _ rfl _ cN (0, 0) _ a11 Try.underlying38 rfl iNN ?_
        (try simp only [Act.put, List.setIfInBounds_toArray, List.set_cons_zero, List.set_cons_succ])
        refine wpList_load_row_g (by simp [Region.wanted, yielded, Act.put]) 38 (.tmp 9) rfl _ rfl _ cS (0, 0) _ a9 Try.underlying38 rfl iN ?_
        (try simp only [Act.put, List.setIfInBounds_toArray, List.set_cons_zero, List.set_cons_succ])
        iterate 6 (first | go_guarded | go_step)
        refine wpList_load_row_g (by simp [Region.wanted, yielded, Act.put]) 38 (.tmp 11) rfl _ rfl _ cN (0, 0) _ a11 Try.underlying38 rfl iNN ?_
        (try simp only [Act.put, List.setIfInBounds_toArray, List.set_cons_zero, List.set_cons_succ])
        refine wpList_load_row_g (by simp [Region.wanted, yielded, Act.put]) 38 (.tmp 7) rfl _ rfl _ cL (0, 0) _ a7 Try.underlying38 rfl iLL ?_
        (try simp only [Act.put, List.setIfInBounds_toArray, List.set_cons_zero, List.set_cons_succ])
        go_upto_region 20 with (fail)
        refine wp_region_lit ?_
        refine wpList_load_row rfl 38 (.tmp 11) rfl _ rfl _ cN (0, 0) _ a11 Try.underlying38 rfl iNN ?_
        (try simp only [Act.put, List.setIfInBounds_toArray, List.set_cons_zero, List.set_cons_succ])
        refine wpList_store_row rfl 38 (.tmp 7) (.tmp 130) rfl _ cN rfl rfl _ cL a7 iNN hsz2 h1N ?_
        (try simp only [Act.put, List.setIfInBounds_toArray, List.set_cons_zero, List.set_cons_succ])
        go_wp2_with fail
        go_roundw
        case rel => exact ⟨k + 1, _, N, v4, by go_num, by omega, FIN.out.1, FIN.out.2.1, FIN.out.2.2.1, FIN.out.2.2.2.1, FIN.out.2.2.2.2.1, FIN.out.2.2.2.2.2⟩
        case measure => simp [intOf]; omega
    · obtain rfl : k = l.length := by omega
      clear hk q7
      go_wp2_with fail
      refine (wakes07_any _).mono ?_
      rintro e W2 ⟨rfl, hb2⟩
      go_wp2
      go_ret
      exact Ret.mk rfl (hB.trans (hb2.mono hB.size))

set_option maxHeartbeats 4000000 in
set_option maxRecDepth 100000 in
theorem superTorn_no {w : World} {A A' : Option Addr} {c c' : Nat} {l : List SP} {xs : List Stp} (hm : l.length ≤ maxLen) 
    (hsx : Sl w w.heap.size 4 A' xs.length (encS xs)) (hc' : xs.length ≤ c') (hm' : c' ≤ maxLen) (h : ¬ (l.length ≤ 20 ∧ l.length ≤ xs.length ∧ fairL xs = true)) :
    Calls Try.prog 4 #[.slice A l.length c, .slice A' xs.length c'] w (Ret w (.bool true)) := by
  have hm3 : xs.length ≤ 9223372036854775807 := by simp only [maxLen] at hm'; omega
  have hm2 : l.length ≤ 9223372036854775807 := by simp only [maxLen] at hm; omega
  have hfair := fair_any (w := w) hsx hc' hm'
  by_cases h20 : l.length ≤ 20
  · by_cases hlx : l.length ≤ xs.length
    · have hf : fairL xs = false := by
        cases hf : fairL xs
        · rfl
        · exact absurd ⟨h20, hlx, hf⟩ h
      rw [hf] at hfair
      have g1 : ¬ (20 : Int) < l.length := by omega
      have g2 : ¬ (xs.length : Int) < l.length := by omega
      clear h hf h20 hlx
      go_enter Try.func4, Try.ntmps4
      go_wp2_with fail
      refine hfair.mono ?_
      rintro e _ ⟨rfl, rfl⟩
      go_wp2_with fail
      refine (wakes07_any _).mono ?_
      rintro e W2 ⟨rfl, hb2⟩
      go_wp2
      go_ret
      exact Ret.mk rfl hb2
    · have g1 : ¬ (20 : Int) < l.length := by omega
      have g2 : (xs.length : Int) < l.length := by omega
      clear h h20 hlx hfair
      go_enter Try.func4, Try.ntmps4
      go_wp2_with fail
      refine (wakes07_any _).mono ?_
      rintro e W2 ⟨rfl, hb2⟩
      go_wp2
      go_ret
      exact Ret.mk rfl hb2
  · have g1 : (20 : Int) < l.length := by omega
    clear h h20 hfair
    go_enter Try.func4, Try.ntmps4
    go_wp2_with fail
    refine (wakes07_any _).mono ?_
    rintro e W2 ⟨rfl, hb2⟩
    go_wp2
    go_ret
    exact Ret.mk rfl hb2

set_option maxRecDepth 100000 in
theorem superTorn_walk {H : Type} {enc : TypeId × Value → H} {W : World} {base : Nat} {v0 v1 : Value} {d0 d1 : DataW H} {p0 p1 : List MemPlace}
    (k0 : Value.okWide Try.prog W .any base 59 v0) (h0 : DataW.Trod enc Try.prog W 0 (fun _ => true) true 59 v0 d0 p0)
    (k1 : Value.okWide Try.prog W .any base 60 v1) (h1 : DataW.Trod enc Try.prog W 0 (fun _ => true) true 60 v1 d1 p1)
    : Calls Try.prog 4 #[v0, v1] W fun e W' => e = .returned (.bool true) ∧ Below W.heap.size W W' := by
  obtain ⟨A, c, l, rfl, a1, a2, a3, a4⟩ := open_sps k0 h0
  obtain ⟨A', c', xs, rfl, b1, b2, b3, b4⟩ := open_steps k1 h1
  by_cases h : l.length ≤ 20 ∧ l.length ≤ xs.length ∧ fairL xs = true
  · exact superTorn_go a3 a1 a2 a4 b3 b1 b2 b4 h.1 h.2.1 h.2.2
  · exact superTorn_no (by omega) b3 b1 b2 h
end Go.Proofs.Ytnkdbkgihemjnaa
