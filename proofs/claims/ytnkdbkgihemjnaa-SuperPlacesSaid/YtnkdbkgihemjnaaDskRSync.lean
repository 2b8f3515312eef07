/- The walk over codexref01's Sync. -/
import Derived.Test.YtnkdbkgihemjnaaDskRPut
import Derived.Test.YtnkdbkgihemjnaaDskSync
namespace Go.Proofs.Ytnkdbkgihemjnaa
set_option linter.unusedSimpArgs false
set_option linter.unusedVariables false
open Go.RowKit

/-- one block is written -/
theorem RDk.putBlk {w : World} {base p B : Nat} {v : Value} {s : DS} {F : Int} (h : RDk w base p B v s F) {i : Nat} (hi : i < s.bl.length) {b : Blk} (hb : b.length = 128) :
    RDk (w.setCells B (i * 128) (bvs b)) base p B v { s with bl := s.bl.set i b } F ∧ DStep p B v v w (w.setCells B (i * 128) (bvs b)) ∧ w.there B (i * 128) 128 := by
  have hl := bcs_len h.ok
  have hlen : i * 128 + 128 ≤ (bcs s.bl).length := by rw [hl]; omega
  refine ⟨⟨?_, ?_, ?_, h.pB, h.bp, h.bB, h.vp, h.vB, ?_, h.hF, h.f63⟩, ⟨but_sets _ B _ (But.refl _ _ _) (.inr (.inl rfl)), fun k e => .inl e⟩, there_blk h.bl (by simpa using hlen)⟩
  · show _ = some (Obj.cells (rHead B (s.bl.set i b).length v F s.done s.down) _)
    rw [List.length_set, sets_far _ _ _ _ _ h.pB]; exact h.hd
  · rw [blk_sets _ _ h.bl, setMany_list _ _ _ (by rw [bvs_len, hb]; exact hlen)]
    have := flat_set (f := bvs) (x := b) h.ok.bvs hi (by rw [bvs_len, hb])
    show _ = some (Obj.cells ((s.bl.set i b).flatMap bvs).toArray _)
    rw [this, bvs_len, hb]
    rfl
  · refine ⟨h.lo.1, ?_⟩
    rcases h.lo.2 with e | ⟨g, cap, cur, e, h1, h2, h3⟩
    · exact .inl e
    · exact .inr ⟨g, cap, cur, e, h1, (sets_far _ _ _ _ _ (fun ee => h.vB (by rw [e, ← ee]; rfl))).trans h2, h3⟩
  · exact ⟨fun c hc => by
      rcases List.mem_or_eq_of_mem_set hc with h1 | rfl
      · exact h.ok.bl c h1
      · exact hb, fun x hx => by show x.1 < (s.bl.set i b).length ∧ _; rw [List.length_set]; exact h.ok.lo x hx, by show 16 ≤ (s.bl.set i b).length; rw [List.length_set]; exact h.ok.n16, by show (s.bl.set i b).length ≤ 128; rw [List.length_set]; exact h.ok.n128, h.ok.f63⟩
/-- the loose writes are forgotten -/
theorem RDk.forget {w : World} {base p B : Nat} {v : Value} {s : DS} {F : Int} (h : RDk w base p B v s F) :
    RDk (w.setCell ⟨p, 1, none⟩ (.slice none 0 0)) base p B (.slice none 0 0) { s with lo := [] } F ∧ DStep p B v (.slice none 0 0) w (w.setCell ⟨p, 1, none⟩ (.slice none 0 0)) := by
  refine ⟨⟨blk_set h.hd 1 _, blk_far h.bl _ (fun e => h.pB e.symm), World.ownsRow_nil _ _ _ _, h.pB, h.bp, h.bB, by simp [Value.ownBlock], by simp [Value.ownBlock], ⟨h.ok.bl, fun x hx => (by cases hx), h.ok.n16, h.ok.n128, h.ok.f63⟩, h.hF, h.f63⟩, ?_, ?_⟩
  · exact (But.refl _ _ _).set (X := Own p B v) (p := ⟨p, 1, none⟩) (.inl rfl) _
  · intro k hk; simp [Value.ownBlock] at hk


theorem wcs_tail {w : World} {L o : Nat} {x : Nat × Blk} (h : w.rangeAt L o (wcs x)) : w.cell? ⟨L, o, none⟩ = some (.int .i64 (x.1 : Int)) ∧ w.rangeAt L (o + 1) (bvs x.2) :=
  ⟨by have := h 0 (.int .i64 (x.1 : Int)) rfl; simpa using this, fun j u hj => by rw [Nat.add_assoc, Nat.add_comm 1 j]; exact h (j + 1) u (by unfold wcs; simpa using hj)⟩
set_option maxHeartbeats 4000000 in
set_option maxRecDepth 100000 in
theorem rsync_any {w : World} {base p B : Nat} {v : Value} {s : DS} {F : Int} (h : RDk w base p B v s F) (hd : s.done < 4611686018427387904) (hl : s.lo.length < 1000000) :
    Calls Try.prog 54 #[dp p] w fun e w' => e = .returned (.int .i64 s.passE) ∧ ∃ v' F', RDk w' base p B v' s.sync F' ∧ DStep p B v v' w w' := by
  have hpass := rgoes_any h hd
  cases hs : s.stops
  · have hwe : Hid (s.passE = 0 ∧ s.sync = { s.gone with bl := putAll s.bl s.lo, lo := [] }) := Lib.hid (by simp [DS.passE, DS.sync, hs])
    have hpg : s.pass = s.gone := by simp [DS.pass, hs]
    rw [hs, hpg] at hpass
    unfold dp at *
    clear hpg
    go_enter Try.func54, Try.ntmps54
    go_wp2_with fail
    refine hpass.mono ?_
    rintro e w1 ⟨rfl, F1, hk1, hb1⟩
    have HH : Hid (DStep p B v v w w1) := Lib.hid ⟨hb1.widen (fun k e => .inl e), fun k e => .inl e⟩
    have hlo : s.gone.lo = s.lo := rfl
    have hbl : s.gone.bl = s.bl := rfl
    obtain ⟨A, c, hv, hv1, hv2⟩ := hk1.form
    have HV := Lib.hid hv
    rw [hlo] at hv1
    clear hv hb1 h
    have hlen : s.lo.length ≤ maxLen := by omega
    go_wp2_with fail
    go_loopw [3] (fun i wr => ∃ k : Nat, i = .int .i64 k ∧ k ≤ s.lo.length ∧ RDk wr base p B v { s.gone with bl := putAll s.bl (s.lo.take k) } F1 ∧ DStep p B v v w1 wr) (fun i _ => s.lo.length - (intOf i).toNat)
    case atStart => exact ⟨0, rfl, by omega, hk1, DStep.refl _ _ _ _⟩
    case round =>
      clear hk1
      obtain ⟨k, rfl, hk, hD, hS⟩ := hrel
      obtain ⟨hb0, c0, c1, c2, c3, c4, fr⟩ := hD.hds
      rw [HV.out] at c1
      rw [show DS.lo (s.gone) = s.lo from rfl] at c1
      by_cases hlt : k < s.lo.length
      · obtain ⟨x, hx⟩ : ∃ x, s.lo[k]? = some x := ⟨_, List.getElem?_eq_getElem hlt⟩
        obtain ⟨L, cap, hv3, hcap, hL, hrow⟩ := hD.loAt (k := k) (x := x) hx
        obtain ⟨rfl, rfl⟩ : A = some ⟨L, 0, none⟩ ∧ c = cap := by have e := HV.out.symm.trans hv3; simp only [Value.slice.injEq] at e; exact ⟨e.1, e.2.2⟩
        have hxo := hD.ok.lo x (List.mem_of_getElem? hx)
        have HD := Lib.hid hD
        have HS := Lib.hid hS
        have hnext : Hid (putAll s.bl (s.lo.take (k + 1)) = (putAll s.bl (s.lo.take k)).set x.1 x.2) := Lib.hid (putAll_take hx)
        simp only at hxo c0
        obtain ⟨bl, hble⟩ : ∃ bl, putAll s.bl (s.lo.take k) = bl := ⟨_, rfl⟩
        rw [hble] at HD hnext c0 hxo
        have g1 : (k : Int) < s.lo.length := by omega
        have g2 : (x.1 : Int) < bl.length := by omega
        have hx2 := hxo.2
        have hplt := HD.out.lt
        obtain ⟨ci, hd1⟩ := wcs_tail hrow
        obtain ⟨P1, P2, P3⟩ := (HD.out.below (w' := wr.drew) ((Below.refl _ _).drew)).putBlk (i := x.1) (by simpa using hxo.1) hx2
        have HP := Lib.hid (And.intro P1 P2)
        clear hD hS hble hv3 hb0 c2 c3 c4 hx P1 P2 hrow
        go_upto_region 6 with (fail)
        go_still_tail 21, (by kernel_rfl)
        refine wpStill_load_row (by simp [Region.wanted]) 40 (.tmp 34) rfl L (k * 129 + 1) rfl (bvs x.2) hd1 _ Try.underlying40 rfl (bk_len hx2) ?_
        repeat still_step
        refine wpStill_nil ?_
        change wpList _ _ _ _ _ (World.drew _)
        refine wpList_store_mid rfl 40 (.tmp 36) (.tmp 35) rfl B (x.1 * 128) (bvs x.2).toArray rfl rfl (by rw [List.size_toArray, bvs_len, hx2]; exact P3) (bk_info hx2) (all_oneCell_toArray (oneCell_bvs _)) ?_
        go_wp2
        go_roundw
        case rel => exact ⟨k + 1, by go_num, by omega, by rw [hnext.out]; exact HP.out.1, HS.out.trans (DStep.trans ⟨(But.refl _ _ wr).drew, fun k e => .inl e⟩ HP.out.2)⟩
        case measure => simp [intOf]; omega
      · obtain rfl : k = s.lo.length := by omega
        obtain ⟨q1, q2⟩ := hD.forget
        rw [List.take_length] at q1 hD
        have HQ := Lib.hid (And.intro q1 (hS.trans q2))
        clear q1 q2 hD hS
        go_wp2_with fail
        go_ret
        rw [hwe.out.1, hwe.out.2]
        first
          | exact ⟨rfl, _, ⟨_, HQ.out.1⟩, HH.out.trans HQ.out.2⟩
          | exact ⟨rfl, _, _, HQ.out.1, HH.out.trans HQ.out.2⟩
  · have hwe : Hid (s.passE = 12 ∧ s.sync = s.cut ∧ s.pass = s.cut) := Lib.hid (by simp [DS.passE, DS.sync, DS.pass, hs])
    rw [hs, hwe.out.2.2] at hpass
    unfold dp at *
    go_enter Try.func54, Try.ntmps54
    go_wp2_with fail
    refine hpass.mono ?_
    rintro e w1 ⟨rfl, F1, hk1, hb1⟩
    go_wp2_with fail
    go_ret
    rw [hwe.out.1, hwe.out.2.1]
    exact ⟨rfl, v, F1, hk1, ⟨hb1.widen (fun k e => .inl e), fun k e => .inl e⟩⟩
end Go.Proofs.Ytnkdbkgihemjnaa
