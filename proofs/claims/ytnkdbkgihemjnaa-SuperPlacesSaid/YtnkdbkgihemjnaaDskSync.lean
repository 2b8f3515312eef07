/- The walk over disk.Sync. -/
import Derived.Test.YtnkdbkgihemjnaaDskPut
import Derived.Deep.CutRange
namespace Go.Proofs.Ytnkdbkgihemjnaa
set_option linter.unusedSimpArgs false
set_option linter.unusedVariables false
open Go.RowKit

theorem bcs_len {s : DS} (h : s.Ok) : (bcs s.bl).length = s.bl.length * 128 := flat_len h.bvs
/-- one block is written -/
theorem Dk.putBlk {w : World} {base p B : Nat} {v : Value} {s : DS} (h : Dk w base p B v s) {i : Nat} (hi : i < s.bl.length) {b : Blk} (hb : b.length = 128) :
    Dk (w.setCells B (i * 128) (bvs b)) base p B v { s with bl := s.bl.set i b } ∧ DStep p B v v w (w.setCells B (i * 128) (bvs b)) ∧ w.there B (i * 128) 128 := by
  have hl := bcs_len h.ok
  have hlen : i * 128 + 128 ≤ (bcs s.bl).length := by rw [hl]; omega
  refine ⟨⟨?_, ?_, ?_, h.pB, h.bp, h.bB, h.vp, h.vB, ?_⟩, ⟨but_sets _ B _ (But.refl _ _ _) (.inr (.inl rfl)), fun k e => .inl e⟩, there_blk h.bl (by simpa using hlen)⟩
  · show _ = some (Obj.cells (dkHead B (s.bl.set i b).length v s.fuse s.done s.down) _)
    rw [List.length_set, sets_far _ _ _ _ _ h.pB]; exact h.hd
  · rw [blk_sets _ _ h.bl, setMany_list _ _ _ (by rw [bvs_len, hb]; exact hlen)]
    have := flat_set (f := bvs) (x := b) h.ok.bvs hi (by rw [bvs_len, hb])
    show _ = some (Obj.cells ((s.bl.set i b).flatMap bvs).toArray _)
    rw [this, bvs_len, hb]
    rfl
  · refine ⟨h.lo.1, ?_⟩
    rcases h.lo.2 with e | ⟨g, cap, cur, e, h1, h2, h3⟩
    · exact .inl e
    · exact .inr ⟨g, cap, cur, e, h1, (sets_far _ _ _ _ _ (fun ee => h.vB (by rw [e, ← ee]; rfl))).trans h2, h3⟩
  · exact ⟨fun c hc => by
      rcases List.mem_or_eq_of_mem_set hc with h1 | rfl
      · exact h.ok.bl c h1
      · exact hb, fun x hx => by show x.1 < (s.bl.set i b).length ∧ _; rw [List.length_set]; exact h.ok.lo x hx, by show 16 ≤ (s.bl.set i b).length; rw [List.length_set]; exact h.ok.n16, by show (s.bl.set i b).length ≤ 128; rw [List.length_set]; exact h.ok.n128, h.ok.f63⟩
/-- the loose writes are forgotten -/
theorem Dk.forget {w : World} {base p B : Nat} {v : Value} {s : DS} (h : Dk w base p B v s) :
    Dk (w.setCell ⟨p, 1, none⟩ (.slice none 0 0)) base p B (.slice none 0 0) { s with lo := [] } ∧ DStep p B v (.slice none 0 0) w (w.setCell ⟨p, 1, none⟩ (.slice none 0 0)) := by
  refine ⟨⟨blk_set h.hd 1 _, blk_far h.bl _ (fun e => h.pB e.symm), World.ownsRow_nil _ _ _ _, h.pB, h.bp, h.bB, by simp [Value.ownBlock], by simp [Value.ownBlock], ⟨h.ok.bl, fun x hx => (by cases hx), h.ok.n16, h.ok.n128, h.ok.f63⟩⟩, ?_, ?_⟩
  · exact (But.refl _ _ _).set (X := Own p B v) (p := ⟨p, 1, none⟩) (.inl rfl) _
  · intro k hk; simp [Value.ownBlock] at hk

theorem putAll_take {bl : List Blk} {lo : List (Nat × Blk)} {k : Nat} {x : Nat × Blk} (hx : lo[k]? = some x) : putAll bl (lo.take (k + 1)) = (putAll bl (lo.take k)).set x.1 x.2 := by
  rw [List.take_add_one, hx, putAll_append]; rfl

set_option maxHeartbeats 4000000 in
set_option maxRecDepth 100000 in
theorem sync_any {w : World} {base p B : Nat} {v : Value} {s : DS} (h : Dk w base p B v s) (hd : s.done < 4611686018427387904) (hl : s.lo.length < 1000000) :
    Calls Try.prog 53 #[dp p] w fun e w' => e = .returned (.int .i64 s.passE) ∧ ∃ v', Dk w' base p B v' s.sync ∧ DStep p B v v' w w' := by
  have hpass := pass_any h hd
  cases hs : s.stops
  · have hwe : Hid (s.passE = 0 ∧ s.sync = { s.gone with bl := putAll s.bl s.lo, lo := [] }) := Lib.hid (by simp [DS.passE, DS.sync, hs])
    have hpg : s.pass = s.gone := by simp [DS.pass, hs]
    rw [hwe.out.1, hpg] at hpass
    unfold dp at *
    clear hpg
    go_enter Try.func53, Try.ntmps53
    go_wp2_with fail
    refine hpass.mono ?_
    rintro e w1 ⟨rfl, hk1, hb1⟩
    have HH : Hid (DStep p B v v w w1) := Lib.hid ⟨hb1.widen (fun k e => .inl e), fun k e => .inl e⟩
    have hlo : s.gone.lo = s.lo := rfl
    have hbl : s.gone.bl = s.bl := rfl
    obtain ⟨A, c, hv, hv1, hv2⟩ := hk1.form
    obtain ⟨hb0, c0, c1, c2, c3, c4, fr⟩ := hk1.hds
    have HV := Lib.hid hv
    rw [hv] at c1
    rw [hlo] at c1 hv1
    clear hv hb0 hb1 h
    have hlen : s.lo.length ≤ maxLen := by omega
    go_wp2_with fail
    go_loopw [5, 18] (fun q i wr => ∃ k : Nat, i = .int .i64 k ∧ k ≤ s.lo.length ∧ Dk wr base p B v { s.gone with bl := putAll s.bl (s.lo.take k) } ∧ DStep p B v v w1 wr) (fun _ i _ => s.lo.length - (intOf i).toNat)
    case atStart => exact ⟨0, rfl, by omega, hk1, DStep.refl _ _ _ _⟩
    case round =>
      clear hk1 c0 c1 c2 c3 c4 fr
      obtain ⟨k, rfl, hk, hD, hS⟩ := hrel
      obtain ⟨hb0, c0, c1, c2, c3, c4, fr⟩ := hD.hds
      by_cases hlt : k < s.lo.length
      · obtain ⟨x, hx⟩ : ∃ x, s.lo[k]? = some x := ⟨_, List.getElem?_eq_getElem hlt⟩
        obtain ⟨L, cap, hv3, hcap, hL, hrow⟩ := hD.loAt (k := k) (x := x) hx
        obtain ⟨rfl, rfl⟩ : A = some ⟨L, 0, none⟩ ∧ c = cap := by have e := HV.out.symm.trans hv3; simp only [Value.slice.injEq] at e; exact ⟨e.1, e.2.2⟩
        have hxo := hD.ok.lo x (List.mem_of_getElem? hx)
        have HD := Lib.hid hD
        have HS := Lib.hid hS
        have hnext : Hid (putAll s.bl (s.lo.take (k + 1)) = (putAll s.bl (s.lo.take k)).set x.1 x.2) := Lib.hid (putAll_take hx)
        simp only at hxo c0
        obtain ⟨bl, hble⟩ : ∃ bl, putAll s.bl (s.lo.take k) = bl := ⟨_, rfl⟩
        rw [hble] at HD hnext c0 hxo
        have g1 : (k : Int) < s.lo.length := by omega
        have g2 : (x.1 : Int) < bl.length := by omega
        have hx2 := hxo.2
        have hplt := HD.out.lt
        clear hD hS hble hv3 hb0 c1 c2 c3 c4 hx
        have hwl : (wcs x).length = 129 := by unfold wcs; rw [List.length_cons, bvs_len, hx2]
        have hwi : (Try.prog.info? 112).map (·.size) = some (wcs x).length := by rw [hwl]; kernel_rfl
        have hone : (wcs x).toArray.all (·.oneCell') = true := all_oneCell_toArray (fun u hu => one_lcs [x] u (by unfold lcs; rw [List.flatMap_cons, List.flatMap_nil, List.append_nil]; exact hu))
        go_upto_region 9 with (first
          | (refine wpList_load_mid rfl 112 (.tmp 20) rfl L (k * 129) rfl (wcs x) _ hrow Try.underlying112 rfl hwi ?_)
          | (refine wpList_new rfl wrZ rfl ?_)
          | (refine wpList_store_row rfl 112 (.tmp 5) (.tmp 21) rfl _ (wcs x).toArray rfl rfl _ _ (heap_alloc_new _ _) (by rw [List.size_toArray]; exact hwi) (by rw [wrZ_size, List.size_toArray, hwl]) hone ?_)
          | fail)
        generalize hY : World.setRow _ _ _ = Y
        have hBY : Below wr.heap.size wr Y := by rw [← hY]; exact bSetRow ((Below.refl _ _).alloc (Nat.le_refl _) _) (Nat.le_refl _) _
        have hYb : Y.heap[wr.heap.size]? = some (.cells (wcs x).toArray 112) := by rw [← hY]; exact setRow_heap _ _ _ _ _ _ (heap_alloc_new _ _)
        clear hY
        have hDY := HD.out.below hBY
        obtain ⟨hb0, c0, c1, c2, c3, c4, fr⟩ := hDY.hds
        simp only at c0
        have hd0 : Y.cell? ⟨wr.heap.size, 0, none⟩ = some (.int .i64 (x.1 : Int)) := blk_cell hYb (by unfold wcs; rfl)
        have hd1 : Y.rangeAt wr.heap.size 1 (bvs x.2) := fun j u hj => by rw [Nat.add_comm]; exact blk_cell hYb (by unfold wcs; simpa using hj)
        obtain ⟨P1, P2, P3⟩ := (hDY.below (w' := Y.drew) ((Below.refl _ _).drew)).putBlk (i := x.1) (by simpa using hxo.1) hx2
        have HP := Lib.hid (And.intro P1 P2)
        have HDY := Lib.hid hDY
        clear P1 P2 hDY hb0 c1 c2 c3 c4 hYb
        go_wp2_with fail
        go_still_tail 9, (by kernel_rfl)
        refine wpStill_load_row (by simp [Region.wanted]) 40 (.tmp 28) rfl wr.heap.size 1 rfl (bvs x.2) hd1 _ Try.underlying40 rfl (bk_len hx2) ?_
        repeat still_step
        refine wpStill_nil ?_
        change wpList _ _ _ _ _ (World.drew _)
        refine wpList_store_mid rfl 40 (.tmp 30) (.tmp 29) rfl B (x.1 * 128) (bvs x.2).toArray rfl rfl (by rw [List.size_toArray, bvs_len, hx2]; exact P3) (bk_info hx2) (all_oneCell_toArray (oneCell_bvs _)) ?_
        go_wp2
        go_roundw
        case rel => exact ⟨k + 1, by go_num, by omega, by rw [hnext.out]; exact HP.out.1, HS.out.trans (DStep.trans ⟨but_of (hBY.mono (Nat.le_refl _)), fun k e => .inl e⟩ (DStep.trans ⟨(But.refl _ _ Y).drew, fun k e => .inl e⟩ HP.out.2))⟩
        case measure => simp [intOf]; omega
      · obtain rfl : k = s.lo.length := by omega
        obtain ⟨q1, q2⟩ := hD.forget
        rw [List.take_length] at q1 hD
        have HQ := Lib.hid (And.intro q1 (hS.trans q2))
        rw [HV.out] at c1
        clear q1 q2 hD hS
        go_wp2_with fail
        go_ret
        rw [hwe.out.1, hwe.out.2]
        exact ⟨rfl, _, HQ.out.1, HH.out.trans HQ.out.2⟩
  · have hwe : Hid (s.passE = 12 ∧ s.sync = s.cut ∧ s.pass = s.cut) := Lib.hid (by simp [DS.passE, DS.sync, DS.pass, hs])
    rw [hwe.out.1, hwe.out.2.2] at hpass
    unfold dp at *
    go_enter Try.func53, Try.ntmps53
    go_wp2_with fail
    refine hpass.mono ?_
    rintro e w1 ⟨rfl, hk1, hb1⟩
    go_wp2_with fail
    go_ret
    rw [hwe.out.1, hwe.out.2.1]
    exact ⟨rfl, v, hk1, ⟨hb1.widen (fun k e => .inl e), fun k e => .inl e⟩⟩
theorem sync_nil (w : World) : Calls Try.prog 53 #[.pointer none] w fun e w' => e = .returned (.int .i64 1) ∧ w = w' := by
  go_enter Try.func53, Try.ntmps53
  go_wp2_with fail
  go_ret
  exact ⟨rfl, rfl⟩
end Go.Proofs.Ytnkdbkgihemjnaa
