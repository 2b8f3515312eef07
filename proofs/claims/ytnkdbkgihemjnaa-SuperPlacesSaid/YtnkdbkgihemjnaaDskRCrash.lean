/- The walk over codexref01's Crash. -/
import Derived.Test.YtnkdbkgihemjnaaDskRSync
namespace Go.Proofs.Ytnkdbkgihemjnaa
set_option linter.unusedSimpArgs false
set_option linter.unusedVariables false
open Go.RowKit

theorem bvs_setOne (l : List UInt8) (i : Nat) (c : UInt8) : bvs (l.set i c) = (bvs l).set i (bv c) := by simp [bvs, List.map_set]
theorem flat_set1 {i : Nat} {c : UInt8} (hi : i < 128) : ∀ {l : List Blk} {j : Nat} {b : Blk}, (∀ y ∈ l, y.length = 128) → l[j]? = some b → (l.set j (b.set i c)).flatMap bvs = (l.flatMap bvs).set (j * 128 + i) (bv c)
  | [], j, b, _, h => by simp at h
  | y :: l, 0, b, hs, h => by
    obtain rfl : y = b := by simpa using h
    have hy : (bvs y).length = 128 := by rw [bvs_len]; exact hs y (by simp)
    rw [List.set_cons_zero, List.flatMap_cons, List.flatMap_cons, Nat.zero_mul, Nat.zero_add, List.set_append, if_pos (by omega), bvs_setOne]
  | y :: l, j + 1, b, hs, h => by
    have hy : (bvs y).length = 128 := by rw [bvs_len]; exact hs y (by simp)
    rw [List.set_cons_succ, List.flatMap_cons, List.flatMap_cons, List.set_append, if_neg (by omega), flat_set1 hi (fun z hz => hs z (by simp [hz])) (by simpa using h), hy, show (j + 1) * 128 + i - 128 = j * 128 + i from by omega]
/-- one byte of a block is written -/
theorem RDk.putByte {w : World} {base p B : Nat} {v : Value} {s : DS} {F : Int} (h : RDk w base p B v s F) {j i : Nat} {b : Blk} (hj : s.bl[j]? = some b) (hi : i < 128) (c : UInt8) :
    RDk (w.setCell ⟨B, j * 128 + i, none⟩ (bv c)) base p B v { s with bl := s.bl.set j (b.set i c) } F ∧ But w.heap.size (Own p B v) w (w.setCell ⟨B, j * 128 + i, none⟩ (bv c)) := by
  refine ⟨⟨?_, ?_, ?_, h.pB, h.bp, h.bB, h.vp, h.vB, ?_, h.hF, h.f63⟩, (But.refl _ _ _).set (X := Own p B v) (p := ⟨B, j * 128 + i, none⟩) (.inr (.inl rfl)) _⟩
  · show _ = some (Obj.cells (rHead B (s.bl.set j (b.set i c)).length v F s.done s.down) _)
    rw [List.length_set]; exact blk_far h.hd _ h.pB
  · have := blk_set h.bl (j * 128 + i) (bv c)
    rw [this]
    unfold bcs
    rw [flat_set1 hi h.ok.bl hj, List.setIfInBounds_toArray]
  · refine ⟨h.lo.1, ?_⟩
    rcases h.lo.2 with e | ⟨g, cap, cur, e, h1, h2, h3⟩
    · exact .inl e
    · exact .inr ⟨g, cap, cur, e, h1, blk_far h2 _ (fun (ee : g = B) => h.vB (by rw [e, ee]; rfl)), h3⟩
  · exact ⟨fun c' hc => by
      rcases List.mem_or_eq_of_mem_set hc with h1 | rfl
      · exact h.ok.bl c' h1
      · rw [List.length_set]; exact h.ok.bl b (List.mem_of_getElem? hj), fun x hx => by show x.1 < (s.bl.set j _).length ∧ _; rw [List.length_set]; exact h.ok.lo x hx, by show 16 ≤ (s.bl.set j _).length; rw [List.length_set]; exact h.ok.n16, by show (s.bl.set j _).length ≤ 128; rw [List.length_set]; exact h.ok.n128, h.ok.f63⟩
theorem halfOf_set {b a : Blk} (hb : b.length = 128) (ha : a.length = 128) {i : Nat} (hi : i < 128) {c : UInt8} (hc : b[i]? = some c) : (halfOf i b a).set i c = halfOf (i + 1) b a := by
  obtain ⟨h1, rfl⟩ := List.getElem?_eq_some_iff.1 hc
  unfold halfOf
  rw [List.set_append, if_neg (by simp; omega), List.length_take, Nat.min_eq_left (by omega), Nat.sub_self, List.drop_eq_getElem_cons (by omega), List.set_cons_zero, List.take_succ_eq_append_getElem h1, List.append_assoc]
  rfl
theorem halfOf_zero (b a : Blk) : halfOf 0 b a = a := by simp [halfOf]
theorem crashTo_beyond (keep : List UInt8) (torn : Int) (lo : List (Nat × Blk)) (bl : List Blk) {k m : Nat} (hk : keep.length ≤ k) (hm : k ≤ m) : crashTo keep torn lo bl m = crashTo keep torn lo bl k := by
  induction m with
  | zero =>
    obtain rfl : k = 0 := by omega
    rfl
  | succ m ih =>
    rcases Nat.lt_or_ge m k with h | h
    · obtain rfl : k = m + 1 := by omega
      rfl
    · rw [← ih h]
      have hkn : keeps keep m = false := by unfold keeps; rw [List.getElem?_eq_none (by omega)]
      conv => lhs; unfold crashTo
      split
      · unfold crash1; rw [hkn]; rfl
      · rfl
/-- what Crash does at its end -/
theorem RDk.ended {w : World} {base p B : Nat} {v : Value} {s : DS} {F : Int} (h : RDk w base p B v s F) :
    RDk (((w.setCell ⟨p, 1, none⟩ (.slice none 0 0)).setCell ⟨p, 2, none⟩ (.int .i64 (-1))).setCell ⟨p, 3, none⟩ (.bool false)) base p B (.slice none 0 0) ⟨s.bl, [], -1, s.done, false⟩ (-1) ∧
      But w.heap.size (· = p) w (((w.setCell ⟨p, 1, none⟩ (.slice none 0 0)).setCell ⟨p, 2, none⟩ (.int .i64 (-1))).setCell ⟨p, 3, none⟩ (.bool false)) := by
  refine ⟨⟨blk_set (blk_set (blk_set h.hd 1 _) 2 _) 3 _, blk_far (blk_far (blk_far h.bl _ (fun e => h.pB e.symm)) _ (fun e => h.pB e.symm)) _ (fun e => h.pB e.symm), World.ownsRow_nil _ _ _ _, h.pB, h.bp, h.bB, by simp [Value.ownBlock], by simp [Value.ownBlock], ⟨h.ok.bl, fun x hx => (by cases hx), h.ok.n16, h.ok.n128, by simp⟩, by simp, by omega⟩, ?_⟩
  exact (((But.refl _ _ _).setp 1 _).setp 2 _).setp 3 _
theorem set_same {l : List Blk} {j : Nat} {a : Blk} (h : l[j]? = some a) : l.set j a = l := by
  obtain ⟨hj, rfl⟩ := List.getElem?_eq_some_iff.1 h
  exact List.set_getElem_self hj
set_option maxHeartbeats 8000000 in
set_option maxRecDepth 100000 in
theorem rcrash_any {w : World} {base p B : Nat} {v : Value} {s : DS} {F : Int} (h : RDk w base p B v s F) (hlo : s.lo.length < 1000000) (keep : List UInt8) (KA : Option Addr) (kc : Nat) (hkl : keep.length ≤ 1000000) (hK : Sl w w.heap.size 1 KA keep.length (bvs keep))
    (hKO : ∀ b o, 0 < keep.length → KA = some ⟨b, o, none⟩ → ¬ Own p B v b) (torn : Int) :
    Calls Try.prog 24 #[dp p, .slice KA keep.length kc, .int .i64 torn] w fun e w' => e = .returned (.tuple #[]) ∧ ∃ v' F', RDk w' base p B v' (s.crash keep torn) F' ∧ DStep p B v v' w w' := by
  obtain ⟨A, c, hv, hv1, hv2⟩ := h.form
  have HV := Lib.hid hv
  have HK : Hid (∀ wr, DStep p B v v w wr → ∀ k x, keep[k]? = some x → ∃ b o, KA = some ⟨b, o, none⟩ ∧ wr.cell? ⟨b, o + k, none⟩ = some (.int .u8 (x.toNat : Int))) := Lib.hid (fun wr hS k x hx => by
    obtain ⟨hkk, -⟩ := List.getElem?_eq_some_iff.1 hx
    obtain ⟨b, o, e, hb, hr⟩ := hK.at_ (by omega)
    refine ⟨b, o, e, ?_⟩
    rw [World.cell?_of_block (a := ⟨b, o + k, none⟩) (hS.but.block b hb (hKO b o (by omega) e))]
    exact hr k _ (by unfold bvs; rw [List.getElem?_map, hx]; rfl))
  have HEND : Hid (∀ k, (k = s.lo.length ∨ k = keep.length) → k ≤ s.lo.length → crashTo keep torn s.lo s.bl k = crashTo keep torn s.lo s.bl s.lo.length) := Lib.hid (fun k hk hl => by
    rcases hk with rfl | rfl
    · rfl
    · exact (crashTo_beyond _ _ _ _ (Nat.le_refl _) hl).symm)
  have hlen : s.lo.length ≤ maxLen := by omega
  clear hv hK hKO
  unfold dp at *
  go_enter Try.func24, Try.ntmps24
  go_wp2_with fail
  go_loopw [6] (fun i wr => ∃ k : Nat, i = .int .i64 k ∧ k ≤ s.lo.length ∧ k ≤ keep.length ∧ RDk wr base p B v { s with bl := crashTo keep torn s.lo s.bl k } F ∧ DStep p B v v w wr) (fun i _ => s.lo.length - (intOf i).toNat)
  case atStart => exact ⟨0, rfl, by omega, by omega, h, DStep.refl _ _ _ _⟩
  case round =>
    clear h
    obtain ⟨k, rfl, hk, hkk, hD, hS⟩ := hrel
    obtain ⟨hb0, c0, c1, c2, c3, c4, fr⟩ := hD.hds
    rw [HV.out] at c1
    by_cases hlt : k < s.lo.length
    · by_cases hlt2 : k < keep.length
      · have g1 : (k : Int) < s.lo.length := by omega
        have g2 : (k : Int) < keep.length := by omega
        obtain ⟨x, hx⟩ : ∃ x, s.lo[k]? = some x := ⟨_, List.getElem?_eq_getElem hlt⟩
        obtain ⟨kb, hkb⟩ : ∃ x, keep[k]? = some x := ⟨_, List.getElem?_eq_getElem hlt2⟩
        obtain ⟨b, o, rfl, ck⟩ := HK.out wr hS k kb hkb
        have hstep : Hid (crashTo keep torn s.lo s.bl (k + 1) = crash1 keep torn k (crashTo keep torn s.lo s.bl k) x) := Lib.hid (by conv => lhs; unfold crashTo; rw [hx])
        have hkeep : keeps keep k = (kb.toNat % 2 == 1) := by unfold keeps; rw [hkb]
        obtain ⟨bl, hble⟩ : ∃ bl, crashTo keep torn s.lo s.bl k = bl := ⟨_, rfl⟩
        have hbll : bl.length = s.bl.length := by rw [← hble]; exact crashTo_len _ _ _ _ _
        rw [hble] at hD hstep
        have hxo := hD.ok.lo x (List.mem_of_getElem? hx)
        have hx1 : x.1 < bl.length := hxo.1
        have hx2 := hxo.2
        obtain ⟨old, hold⟩ : ∃ a, bl[x.1]? = some a := ⟨_, List.getElem?_eq_getElem hx1⟩
        have hol : old.length = 128 := hD.ok.bl old (List.mem_of_getElem? hold)
        have hD0 : Hid (RDk wr base p B v { s with bl := bl.set x.1 (halfOf 0 x.2 old) } F) := Lib.hid (by rw [halfOf_zero, set_same hold]; exact hD)
        have HD := Lib.hid hD
        have hk8 := kb.toNat_lt
        clear hD hble hb0 c0 c2 c3 c4 fr
        by_cases ho : kb.toNat % 2 = 1
        · have g3 : ((kb.toNat : Int) % 2 == 0) = false := by simp; omega
          by_cases ht : (k : Int) = torn
          · have HSZ : Hid (sizeOf' torn k = 64) := Lib.hid (by unfold sizeOf'; rw [if_pos ht])
            have g5 : ((k : Int) == torn) = true := by simpa using ht
            clear ht
            go_wp2_with fail
            go_loopw [8] (fun i wr => ∃ i' : Nat, i = .int .i64 i' ∧ i' ≤ 64 ∧ RDk wr base p B v { s with bl := bl.set x.1 (halfOf i' x.2 old) } F ∧ DStep p B v v w wr) (fun i _ => 64 - (intOf i).toNat)
            case atStart => exact ⟨0, rfl, by omega, hD0.out, hS⟩
            case round =>
              clear hS
              obtain ⟨i, rfl, hi, hD2, hS2⟩ := hrel
              by_cases hi2 : i < 64
              · have g4 : (i : Int) < 64 := by omega
                obtain ⟨hb0, c0, c1, c2, c3, c4, fr⟩ := hD2.hds
                rw [HV.out] at c1
                simp only [List.length_set] at c0
                obtain ⟨L, cap, hv3, hcap, hL, hrow⟩ := hD2.loAt (k := k) (x := x) hx
                obtain ⟨rfl, rfl⟩ : A = some ⟨L, 0, none⟩ ∧ c = cap := by have e := HV.out.symm.trans hv3; simp only [Value.slice.injEq] at e; exact ⟨e.1, e.2.2⟩
                obtain ⟨ci, hd1⟩ := wcs_tail hrow
                obtain ⟨q, hq⟩ : ∃ q, x.2[i]? = some q := ⟨_, List.getElem?_eq_getElem (by omega)⟩
                have cq : wr.cell? ⟨L, k * 129 + 1 + i, none⟩ = some (.int .u8 (q.toNat : Int)) := hd1 i _ (by unfold bvs; rw [List.getElem?_map, hq]; rfl)
                have hbt := hD2.blkAt (i := x.1) (by simpa using hx1)
                have hhl : (halfOf i x.2 old).length = 128 := halfOf_len (by omega) hx2 hol
                have hbk : DS.blk { s with bl := bl.set x.1 (halfOf i x.2 old) } x.1 = halfOf i x.2 old := by unfold DS.blk; simp only [List.getElem?_set_self hx1]; rfl
                rw [hbk] at hbt
                obtain ⟨u, hu⟩ : ∃ u, (halfOf i x.2 old)[i]? = some u := ⟨_, List.getElem?_eq_getElem (by omega)⟩
                have cu : wr.cell? ⟨B, x.1 * 128 + i, none⟩ = some (.int .u8 (u.toNat : Int)) := hbt i _ (by unfold bvs; rw [List.getElem?_map, hu]; rfl)
                have fu := blk_frozen hD2.bl (x.1 * 128 + i)
                obtain ⟨P1, P2⟩ := hD2.putByte (j := x.1) (i := i) (b := halfOf i x.2 old) (by simp only [List.getElem?_set_self hx1]) (by omega) q
                have HP : Hid (RDk (wr.setCell ⟨B, x.1 * 128 + i, none⟩ (.int .u8 (q.toNat : Int))) base p B v { s with bl := bl.set x.1 (halfOf (i + 1) x.2 old) } F ∧ DStep p B v v w (wr.setCell ⟨B, x.1 * 128 + i, none⟩ (.int .u8 (q.toNat : Int))).drew) := Lib.hid (by
                  simp only [List.set_set, halfOf_set hx2 hol (show i < 128 by omega) hq] at P1
                  exact ⟨P1, hS2.trans ⟨P2.drew, fun k e => .inl e⟩⟩)
                have gx : (x.1 : Int) < s.bl.length := by omega
                have gi : (i : Int) < 128 := by omega
                clear hD2 hS2 hb0 c2 c3 c4 hv3 hrow hd1 hq hbt hbk hu P1 P2
                go_upto_region 10 with (fail)
                go_still_tail 25, (by kernel_rfl)
                change wpList _ _ _ _ _ (World.drew _)
                go_wp2
                go_roundw
                case rel => exact ⟨i + 1, by go_num, by omega, HP.out.1.below (Below.drew (Below.refl _ _)), HP.out.2⟩
                case measure => simp [intOf]; omega
              · obtain rfl : i = 64 := by omega
                have g4 : ¬ ((64 : Nat) : Int) < 64 := by omega
                have HF : Hid (crashTo keep torn s.lo s.bl (k + 1) = bl.set x.1 (halfOf 64 x.2 old)) := Lib.hid (by
                  rw [hstep.out, crash1, hkeep, show (kb.toNat % 2 == 1) = true from by rw [ho]; rfl, if_pos rfl, hold, Option.getD_some, show sizeOf' torn k = 64 from HSZ.out])
                go_wp2_with fail
                go_roundw
                case rel => exact ⟨k + 1, by go_num, by omega, by omega, by rw [HF.out]; exact hD2, hS2⟩
                case measure => simp [intOf]; omega
          · have HSZ : Hid (sizeOf' torn k = 128) := Lib.hid (by unfold sizeOf'; rw [if_neg ht])
            have g5 : ((k : Int) == torn) = false := by simpa using ht
            clear ht
            go_wp2_with fail
            go_loopw [8] (fun i wr => ∃ i' : Nat, i = .int .i64 i' ∧ i' ≤ 128 ∧ RDk wr base p B v { s with bl := bl.set x.1 (halfOf i' x.2 old) } F ∧ DStep p B v v w wr) (fun i _ => 128 - (intOf i).toNat)
            case atStart => exact ⟨0, rfl, by omega, hD0.out, hS⟩
            case round =>
              clear hS
              obtain ⟨i, rfl, hi, hD2, hS2⟩ := hrel
              by_cases hi2 : i < 128
              · have g4 : (i : Int) < 128 := by omega
                obtain ⟨hb0, c0, c1, c2, c3, c4, fr⟩ := hD2.hds
                rw [HV.out] at c1
                simp only [List.length_set] at c0
                obtain ⟨L, cap, hv3, hcap, hL, hrow⟩ := hD2.loAt (k := k) (x := x) hx
                obtain ⟨rfl, rfl⟩ : A = some ⟨L, 0, none⟩ ∧ c = cap := by have e := HV.out.symm.trans hv3; simp only [Value.slice.injEq] at e; exact ⟨e.1, e.2.2⟩
                obtain ⟨ci, hd1⟩ := wcs_tail hrow
                obtain ⟨q, hq⟩ : ∃ q, x.2[i]? = some q := ⟨_, List.getElem?_eq_getElem (by omega)⟩
                have cq : wr.cell? ⟨L, k * 129 + 1 + i, none⟩ = some (.int .u8 (q.toNat : Int)) := hd1 i _ (by unfold bvs; rw [List.getElem?_map, hq]; rfl)
                have hbt := hD2.blkAt (i := x.1) (by simpa using hx1)
                have hhl : (halfOf i x.2 old).length = 128 := halfOf_len (by omega) hx2 hol
                have hbk : DS.blk { s with bl := bl.set x.1 (halfOf i x.2 old) } x.1 = halfOf i x.2 old := by unfold DS.blk; simp only [List.getElem?_set_self hx1]; rfl
                rw [hbk] at hbt
                obtain ⟨u, hu⟩ : ∃ u, (halfOf i x.2 old)[i]? = some u := ⟨_, List.getElem?_eq_getElem (by omega)⟩
                have cu : wr.cell? ⟨B, x.1 * 128 + i, none⟩ = some (.int .u8 (u.toNat : Int)) := hbt i _ (by unfold bvs; rw [List.getElem?_map, hu]; rfl)
                have fu := blk_frozen hD2.bl (x.1 * 128 + i)
                obtain ⟨P1, P2⟩ := hD2.putByte (j := x.1) (i := i) (b := halfOf i x.2 old) (by simp only [List.getElem?_set_self hx1]) (by omega) q
                have HP : Hid (RDk (wr.setCell ⟨B, x.1 * 128 + i, none⟩ (.int .u8 (q.toNat : Int))) base p B v { s with bl := bl.set x.1 (halfOf (i + 1) x.2 old) } F ∧ DStep p B v v w (wr.setCell ⟨B, x.1 * 128 + i, none⟩ (.int .u8 (q.toNat : Int))).drew) := Lib.hid (by
                  simp only [List.set_set, halfOf_set hx2 hol (show i < 128 by omega) hq] at P1
                  exact ⟨P1, hS2.trans ⟨P2.drew, fun k e => .inl e⟩⟩)
                have gx : (x.1 : Int) < s.bl.length := by omega
                have gi : (i : Int) < 128 := by omega
                clear hD2 hS2 hb0 c2 c3 c4 hv3 hrow hd1 hq hbt hbk hu P1 P2
                go_upto_region 10 with (fail)
                go_still_tail 25, (by kernel_rfl)
                change wpList _ _ _ _ _ (World.drew _)
                go_wp2
                go_roundw
                case rel => exact ⟨i + 1, by go_num, by omega, HP.out.1.below (Below.drew (Below.refl _ _)), HP.out.2⟩
                case measure => simp [intOf]; omega
              · obtain rfl : i = 128 := by omega
                have g4 : ¬ ((128 : Nat) : Int) < 128 := by omega
                have HF : Hid (crashTo keep torn s.lo s.bl (k + 1) = bl.set x.1 (halfOf 128 x.2 old)) := Lib.hid (by
                  rw [hstep.out, crash1, hkeep, show (kb.toNat % 2 == 1) = true from by rw [ho]; rfl, if_pos rfl, hold, Option.getD_some, show sizeOf' torn k = 128 from HSZ.out])
                go_wp2_with fail
                go_roundw
                case rel => exact ⟨k + 1, by go_num, by omega, by omega, by rw [HF.out]; exact hD2, hS2⟩
                case measure => simp [intOf]; omega
        · have g3 : ((kb.toNat : Int) % 2 == 0) = true := by simp; omega
          have HF : Hid (crashTo keep torn s.lo s.bl (k + 1) = bl) := Lib.hid (by
            rw [hstep.out, crash1, hkeep, show (kb.toNat % 2 == 1) = false from by rw [beq_eq_false_iff_ne]; exact ho, if_neg (by simp)])
          go_wp2_with fail
          go_roundw
          case rel => exact ⟨k + 1, by go_num, by omega, by omega, by rw [HF.out]; exact HD.out, hS⟩
          case measure => simp [intOf]; omega
      · obtain rfl : k = keep.length := by omega
        have g1 : (keep.length : Int) < s.lo.length := by omega
        have g2 : ¬ (keep.length : Int) < keep.length := by omega
        rw [HEND.out _ (.inr rfl) hk] at hD
        obtain ⟨q1, q2⟩ := hD.ended
        have HQ := Lib.hid (And.intro q1 (hS.trans (v'' := .slice none 0 0) ⟨q2.widen (fun k e => .inl e), fun k e => by simp [Value.ownBlock] at e⟩))
        clear q1 q2 hD hS
        go_wp2_with fail
        refine bodyPost_end (results_none rfl _ _ _) rfl ?_
        first
          | exact ⟨rfl, _, ⟨_, HQ.out.1⟩, HQ.out.2⟩
          | exact ⟨rfl, _, _, HQ.out.1, HQ.out.2⟩
    · obtain rfl : k = s.lo.length := by omega
      have g1 : ¬ (s.lo.length : Int) < s.lo.length := by omega
      obtain ⟨q1, q2⟩ := hD.ended
      have HQ := Lib.hid (And.intro q1 (hS.trans (v'' := .slice none 0 0) ⟨q2.widen (fun k e => .inl e), fun k e => by simp [Value.ownBlock] at e⟩))
      clear q1 q2 hD hS
      go_wp2_with fail
      refine bodyPost_end (results_none rfl _ _ _) rfl ?_
      first
        | exact ⟨rfl, _, ⟨_, HQ.out.1⟩, HQ.out.2⟩
        | exact ⟨rfl, _, _, HQ.out.1, HQ.out.2⟩
end Go.Proofs.Ytnkdbkgihemjnaa
