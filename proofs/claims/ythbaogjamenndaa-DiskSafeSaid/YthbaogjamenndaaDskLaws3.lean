/- The statements of layer 1: DiskReads. -/
import Derived.Test.YthbaogjamenndaaDskStep
namespace Go.Proofs.Ythbaogjamenndaa
set_option linter.unusedSimpArgs false
set_option linter.unusedVariables false
open Go.RowKit Go.ChangeShapes Go.WideShapes Go.Sort

/-! ### plain: what is read -/
def rd (s : DS) (k : Nat) : Blk := lastOf' s.lo k (s.blk k)
theorem rd_len {s : DS} (h : s.Ok) (k : Nat) : (rd s k).length = 128 := lastOf_len (fun x hx => (h.lo x hx).2) (h.blk k)
theorem rd_new (n k : Nat) : rd (DS.new n) k = zblk := by
  unfold rd DS.blk DS.new lastOf'
  simp only [List.foldl_nil, List.getElem?_replicate]
  split <;> rfl
theorem rd_write (s : DS) (k : Nat) (b : Blk) (j : Nat) : rd (s.write k b) j = if s.writeE k = 0 ∧ j = k then b else rd s j := by
  unfold DS.writeE DS.write DS.passE
  cases hin : s.inB k
  · simp [rd]
  · cases hs : s.stops
    · simp only [if_true, Bool.false_eq_true, if_false, true_and]
      unfold rd
      show lastOf' (s.lo ++ [((k : Int).toNat, b)]) j (s.blk j) = _
      rw [lastOf_append]
      show (if (k : Int).toNat = j then b else lastOf' s.lo j (s.blk j)) = _
      rw [Int.toNat_natCast]
      by_cases e : k = j
      · rw [if_pos e, if_pos e.symm]
      · rw [if_neg e, if_neg (fun h => e h.symm)]
    · simp [rd, DS.cut, DS.blk]
theorem putAll_get {lo : List (Nat × Blk)} : ∀ {bl : List Blk} (k : Nat), (∀ x ∈ lo, x.1 < bl.length) → (putAll bl lo)[k]?.getD zblk = lastOf' lo k (bl[k]?.getD zblk) := by
  induction lo with
  | nil => intro bl k _; rfl
  | cons y l ih =>
    intro bl k h
    show (putAll (bl.set y.1 y.2) l)[k]?.getD zblk = lastOf' l k (if y.1 = k then y.2 else bl[k]?.getD zblk)
    rw [ih k (fun x hx => by rw [List.length_set]; exact h x (by simp [hx]))]
    congr 1
    rw [List.getElem?_set]
    by_cases e : y.1 = k
    · subst e
      rw [if_pos rfl, if_pos (h y (by simp)), if_pos rfl]; rfl
    · rw [if_neg e, if_neg e]
theorem rd_sync {s : DS} (h : s.Ok) (j : Nat) : rd s.sync j = rd s j := by
  unfold DS.sync
  cases hs : s.stops
  · simp only [Bool.false_eq_true, if_false]
    exact putAll_get j (fun x hx => (h.lo x hx).1)
  · rfl
theorem rd_fuse (s : DS) (n : Int) (j : Nat) : rd (s.fuseTo n) j = rd s j := rfl
theorem bcs_put {wl : List Blk} (hw : ∀ y ∈ wl, y.length = 128) {i : Nat} (hi : i < wl.length) {b : Blk} (hb : b.length = 128) : setMany (bcs wl).toArray (i * 128) (bvs b) = (bcs (wl.set i b)).toArray := by
  have hw' : ∀ y ∈ wl, (bvs y).length = 128 := fun y hy => by rw [bvs_len]; exact hw y hy
  have hl : (bcs wl).length = wl.length * 128 := flat_len hw'
  rw [setMany_list _ _ _ (by rw [bvs_len, hb, hl]; omega)]
  have := flat_set (f := bvs) (x := b) hw' hi (by rw [bvs_len, hb])
  show _ = ((wl.set i b).flatMap bvs).toArray
  rw [this, bvs_len, hb]
  rfl
theorem bcs_at {w : World} {g : Nat} {t : TypeId} {wl : List Blk} (h : w.heap[g]? = some (.cells (bcs wl).toArray t)) (hw : ∀ y ∈ wl, y.length = 128) {i : Nat} {b : Blk} (hi : wl[i]? = some b) : w.rangeAt g (i * 128) (bvs b) := by
  have hw' : ∀ y ∈ wl, (bvs y).length = 128 := fun y hy => by rw [bvs_len]; exact hw y hy
  have h0 : w.rangeAt g 0 (bcs wl) := fun j u hj => by rw [Nat.zero_add]; exact blk_cell h (by simpa using hj)
  have := range_cut h0 (i * 128) 128
  rwa [show ((bcs wl).drop (i * 128)).take 128 = bvs b from flat_part (f := bvs) hw' hi, Nat.zero_add] at this
theorem sevenZ : ZeroIs Try.prog 76 (bcs (List.replicate 7 zblk)).toArray := by
  unfold ZeroIs
  rw [show (bcs (List.replicate 7 zblk)).toArray.size = 896 from by rw [List.size_toArray, bcs_rep, List.length_replicate]]
  kernel_rfl
/-- seven blocks, each as it is read -/
def Like (wl : List Blk) (s : DS) : Prop := wl.length = 7 ∧ (∀ y ∈ wl, y.length = 128) ∧ ∀ k, k < 7 → wl[k]? = some (rd s k)
theorem like_new : Like (List.replicate 7 zblk) (DS.new 16) :=
  ⟨by simp, fun y hy => by rw [List.eq_of_mem_replicate hy]; exact zblk_len, fun k hk => by rw [List.getElem?_replicate, if_pos hk, rd_new]⟩
theorem like_write {wl : List Blk} {s : DS} (h : Like wl s) {k : Nat} (hk : k < 7) {b : Blk} (hb : b.length = 128) (he : s.writeE k = 0) : Like (wl.set k b) (s.write k b) := by
  refine ⟨by rw [List.length_set]; exact h.1, fun y hy => ?_, fun j hj => ?_⟩
  · rcases List.mem_or_eq_of_mem_set hy with h1 | rfl
    · exact h.2.1 y h1
    · exact hb
  · rw [rd_write, List.getElem?_set]
    by_cases e : k = j
    · subst e
      rw [if_pos rfl, if_pos (by rw [h.1]; exact hk), if_pos ⟨he, rfl⟩]
    · rw [if_neg e, if_neg (fun hh => e hh.2.symm)]; exact h.2.2 j hj
theorem like_same {wl : List Blk} {s s' : DS} (h : Like wl s) (hs : ∀ j, rd s' j = rd s j) : Like wl s' := ⟨h.1, h.2.1, fun j hj => by rw [hs]; exact h.2.2 j hj⟩
theorem DStep.far {w w' : World} {p B G : Nat} {v v' : Value} (st : DStep p B v v' w w') (h : ¬ Own p B v G) (hG : G < w.heap.size) : ¬ Own p B v' G ∧ w'.heap[G]? = w.heap[G]? := by
  refine ⟨fun hj => ?_, st.but.block G hG h⟩
  rcases hj with e | e | e
  · exact h (.inl e)
  · exact h (.inr (.inl e))
  · rcases st.own G e with e2 | e2
    · exact h (.inr (.inr e2))
    · omega
theorem write_cnt' (s : DS) (i : Int) (b : Blk) : (s.write i b).done ≤ s.done + 1 ∧ (s.write i b).lo.length ≤ s.lo.length + 1 := by
  unfold DS.write
  cases s.inB i
  · simp
  · cases s.stops
    · simp [DS.gone]
    · simp [DS.cut]
theorem sync_cnt' (s : DS) : s.sync.done ≤ s.done + 1 ∧ s.sync.lo.length ≤ s.lo.length + 1 := by
  unfold DS.sync
  cases s.stops
  · simp [DS.gone]
  · simp [DS.cut]
theorem write_bl (s : DS) (i : Int) (b : Blk) : (s.write i b).bl.length = s.bl.length := by
  unfold DS.write
  cases s.inB i
  · rfl
  · cases s.stops <;> rfl
theorem sync_bl (s : DS) : s.sync.bl.length = s.bl.length := by
  unfold DS.sync
  cases s.stops
  · exact putAll_len _ _
  · rfl

set_option maxHeartbeats 8000000 in
set_option maxRecDepth 100000 in
theorem diskReads_core {w : World} {A : Option Addr} {c : Nat} {l : List Stp} (hs : Sl w w.heap.size 4 A l.length (encS l)) (hc : l.length ≤ c) (hm : c ≤ maxLen) (hok : ∀ x ∈ l, x.Ok w) :
    Calls Try.prog 11 #[.slice A l.length c] w (Ret w (.bool true)) := by
  have hn := fun W => new_any 16 (by omega) (by omega) W
  have hm2 : l.length ≤ 9223372036854775807 := by simp only [maxLen] at hm; omega
  have hzv := fun W => run_zero blkZ W
  go_enter Try.func11, Try.ntmps11
  go_wp2_with fail
  refine (hn _).mono ?_
  rintro e W0 ⟨rfl, hk0, hb0⟩
  have hfair := fair_any (w := W0) (hs.next hb0) hc hm
  obtain ⟨t, ht⟩ : ∃ t, fairL l = t := ⟨_, rfl⟩
  rw [ht] at hfair
  unfold dp
  clear hn
  go_wp2_with fail
  refine hfair.mono ?_
  rintro e _ ⟨rfl, rfl⟩
  clear hfair
  cases t
  · go_wp2_with fail
    refine (wakes01_any _).mono ?_
    rintro e W2 ⟨rfl, hb2⟩
    go_wp2
    go_ret
    exact Ret.mk rfl (hb0.trans (hb2.mono hb0.size))
  · have h200 : l.length ≤ 200 ∧ ∀ x ∈ l, x.keep.length ≤ 300 := by
      unfold fairL at ht
      simp at ht
      exact ⟨ht.2, ht.1⟩
    obtain ⟨hl2, hkp⟩ := h200
    clear ht hkp
    have hlt0 := hk0.lt
    have hGown : ∀ v', (∀ j, Own (w.heap.size + 1) w.heap.size v' j → j < W0.heap.size ∨ W0.heap.size < j) → ¬ Own (w.heap.size + 1) w.heap.size v' W0.heap.size := fun v' h hj => by have := h _ hj; omega
    go_upto_region 5 with (first | (refine wpList_new rfl sevenZ rfl ?_) | fail)
    obtain ⟨G, hG⟩ : ∃ G, W0.heap.size = G := ⟨_, rfl⟩
    generalize hW : World.alloc _ _ = W1
    have bG : W1.heap[G]? = some (.cells (bcs (List.replicate 7 zblk)).toArray 76) := by rw [← hW, ← hG]; exact heap_alloc_new _ _
    have hb1 : Below W0.heap.size W0 W1 := by rw [← hW]; exact (Below.refl _ _).alloc (Nat.le_refl _) _
    have hk1 := hk0.below hb1
    have hB1 := hb0.trans (hb1.mono hb0.size)
    have hno : ¬ Own (w.heap.size + 1) w.heap.size (.slice none 0 0) G := fun hj => by have := (hk0.own_ge _ hj).2; omega
    have hGw : w.heap.size ≤ G := by have := hb0.size; omega
    rw [hG]
    clear hW hG hk0 hb0 hb1 hGown hlt0
    go_wp2_with fail
    go_loopw [6] (fun i wr => ∃ (k : Nat) (s : DS) (v : Value) (wl : List Blk), i = .int .i64 k ∧ k ≤ l.length ∧ s.done ≤ k ∧ s.lo.length ≤ k ∧ s.bl.length = 16 ∧ Dk wr w.heap.size (w.heap.size + 1) w.heap.size v s ∧ Below w.heap.size w wr ∧ Like wl s ∧ wr.heap[G]? = some (.cells (bcs wl).toArray 76) ∧ ¬ Own (w.heap.size + 1) w.heap.size v G) (fun i _ => l.length - (intOf i).toNat)
    case atStart => exact ⟨0, DS.new 16, _, _, rfl, by omega, Nat.le_refl _, Nat.le_refl _, rfl, hk1, hB1, like_new, bG, hno⟩
    case round =>
      clear hk1 hB1 bG hno
      obtain ⟨k, s, v, wl, rfl, hk, hdk, hlk, hbl, hD, hB, hL, bG, hno⟩ := hrel
      by_cases hlt : k < l.length
      · obtain ⟨x, hx⟩ : ∃ x, l[k]? = some x := ⟨_, List.getElem?_eq_getElem hlt⟩
        have hxm := List.mem_of_getElem? hx
        obtain ⟨b, o, rfl, hb, q0, q1, q2, q3⟩ := step_at (hs.below hB) hx
        have hxi := (hok x hxm).1
        have g1 : (k : Int) < l.length := by omega
        have hzr := hB.size
        have hGl := (Array.getElem?_eq_some_iff.1 bG).1
        obtain ⟨m, hm7, hm0⟩ : ∃ m : Nat, x.i % 7 = (m : Int) ∧ m < 7 := ⟨(x.i % 7).toNat, by omega, by omega⟩
        have hmod := fun W => mod_any x.i 7 (by omega) (by omega) hxi W
        rw [show (((7 : Nat) : Int)) = 7 from rfl, hm7] at hmod
        have g7 : (m : Int) < 7 := by omega
        have hfl : ∀ W, Calls Try.prog 30 #[.int .u8 (x.v.toNat : Int)] W (Ret W (.agg (bvs (fillB x.v)).toArray)) := fun W => fill_any x.v W
        unfold bv at q2
        clear hx hxm q3
        go_wp2_with fail
        refine (hmod _).mono ?_
        rintro e _ ⟨rfl, rfl⟩
        clear hmod q1
        by_cases k0 : x.kind = 0
        · -- Write
          rw [k0] at q0
          have hq := write_cnt' s (m : Int) (fillB x.v)
          have hwbl := (write_bl s (m : Int) (fillB x.v)).trans hbl
          have hwr := fun W (h : Dk W w.heap.size (w.heap.size + 1) w.heap.size v s) => write_any h (by omega) (by omega) (m : Int) (fillB_len x.v)
          unfold bkv dp at hwr
          go_wp2_with fail
          refine (hfl _).mono ?_
          rintro e W1 ⟨rfl, hb1⟩
          have hD1 := hD.below hb1
          have hB1 := hB.trans (hb1.mono hzr)
          have bG1 := bBlk hb1 hGl bG
          have hz1 := hb1.size
          have q2' : W1.cell? ⟨b, o + k * 4 + 2, none⟩ = some (.int .u8 (x.v.toNat : Int)) := (World.cell?_of_block (a := ⟨b, o + k * 4 + 2, none⟩) (hb1.block b (by omega))).trans q2
          clear hD hB bG q2 hb1 q0
          go_wp2_with fail
          refine (hwr _ hD1).mono ?_
          rintro e W2 ⟨rfl, v2, hD2, hs2⟩
          obtain ⟨hno2, e2⟩ := hs2.far hno (by omega)
          have hB2 := hB1.trans (hs2.below hD1)
          have bG2 := e2.trans bG1
          have q2 : W2.cell? ⟨b, o + k * 4 + 2, none⟩ = some (.int .u8 (x.v.toNat : Int)) := (World.cell?_of_block (a := ⟨b, o + k * 4 + 2, none⟩) (hs2.but.block b (by omega) (fun hj => by have := (hD1.own_ge b hj).1; omega))).trans q2'
          have hz2 := hs2.but.size
          clear hD1 hB1 bG1 q2' e2 hs2 hwr
          by_cases he : s.writeE (m : Int) = 0
          · have hL2 := like_write hL hm0 (fillB_len x.v) he
            have hrdn : ∀ y ∈ wl, y.length = 128 := hL.2.1
            have hwl7 := hL.1
            obtain ⟨s2, hs2e⟩ : ∃ s2, s.write (m : Int) (fillB x.v) = s2 := ⟨_, rfl⟩
            rw [hs2e] at hD2 hq hL2 hwbl
            rw [he]
            clear hs2e he hL
            go_wp2_with fail
            refine (hfl _).mono ?_
            rintro e W3 ⟨rfl, hb3⟩
            have bG3 := bBlk hb3 (Array.getElem?_eq_some_iff.1 bG2).1 bG2
            have hth : W3.there G (m * 128) 128 := there_blk bG3 (by rw [List.size_toArray, show (bcs wl).length = wl.length * 128 from flat_len (fun y hy => by rw [bvs_len]; exact hrdn y hy), hwl7]; omega)
            obtain ⟨W4, hW4⟩ : ∃ W4, W3.setCells G (m * 128) (bvs (fillB x.v)) = W4 := ⟨_, rfl⟩
            have hbt : But W3.heap.size (· = G) W3 W4 := by rw [← hW4]; exact but_sets _ G _ (But.refl _ _ _) rfl
            have hD3 := hD2.below hb3
            have hD4 := hD3.kept hbt (Nat.le_refl _) (fun j hj => by rw [hj]; exact hno2)
            have hB4 := (hB2.trans (hb3.mono (by omega))).trans (hbt.below (by have := hb3.size; omega) (fun j hj => by rw [hj]; exact hGw))
            have bG4 : W4.heap[G]? = some (.cells (bcs (wl.set m (fillB x.v))).toArray 76) := by
              rw [← hW4, blk_sets _ _ bG3, bcs_put hrdn (by omega) (fillB_len x.v)]
            clear hD2 hD3 hB2 bG2 bG3 hb3 hbt q2
            go_upto_region 17 with (first
              | (refine wpList_store_mid rfl 55 (.tmp 70) (.tmp 69) rfl G (m * 128) (bvs (fillB x.v)).toArray rfl rfl (by rw [List.size_toArray, bvs_len, fillB_len]; exact hth) (bk_info (fillB_len x.v)) (all_oneCell_toArray (oneCell_bvs _)) ?_)
              | fail)
            try rw [hW4]
            clear hW4 hth
            have hin : s2.inB (m : Int) = true := DS.inB_iff.2 ⟨by omega, by rw [hwbl]; omega⟩
            have hr := fun W (h : Dk W w.heap.size (w.heap.size + 1) w.heap.size v2 s2) => read_any h (by omega) (m : Int)
            have hrl := rd_len hD4.ok m
            have hlk := hL2.2.2 m hm0
            obtain ⟨R, hRe⟩ : ∃ R, rd s2 m = R := ⟨_, rfl⟩
            have hrow := bcs_at bG4 hL2.2.1 (hlk.trans (by rw [hRe]))
            rw [hRe] at hrl
            have hGl2 := (Array.getElem?_eq_some_iff.1 bG4).1
            cases hdn : s2.down
            · have e1 : s2.read m = R := by rw [← hRe]; simp [DS.read, hin, hdn, rd]
              have e2 : s2.readE m = 0 := by simp [DS.readE, hin, hdn]
              simp only [e1, e2] at hr
              unfold bkv dp at hr
              clear e1 e2 hRe hlk hin
              go_wp2_with fail
              refine (hr _ hD4).mono ?_
              rintro e W5 ⟨rfl, hb5⟩
              obtain ⟨W6, hW6⟩ : ∃ W6, World.setRow (W5.alloc (.cells (bvs zblk).toArray 55)) W5.heap.size (bvs R).toArray = W6 := ⟨_, rfl⟩
              have hb6 : Below W5.heap.size W5 W6 := by rw [← hW6]; exact bSetRow ((Below.refl _ _).alloc (Nat.le_refl _) _) (Nat.le_refl _) _
              have g6 : W6.heap[W5.heap.size]? = some (.cells (bvs R).toArray 55) := by rw [← hW6]; exact setRow_heap _ _ _ _ _ _ (heap_alloc_new _ _)
              have hD5 := hD4.below hb5
              have hD6 := hD5.below hb6
              have hz5 := hb5.size
              have hrow6 := bRange hb6 (by omega) (bRange hb5 hGl2 hrow)
              have bG6 := bBlk hb6 (by omega) (bBlk hb5 hGl2 bG4)
              have hB6 := hB4.trans ((hb5.mono (by omega)).trans (hb6.mono (by omega)))
              clear hr hD5
              go_wp2_with (first
                | (refine wpList_new rfl blkZ rfl ?_)
                | (refine wpList_store_row rfl 55 (.tmp 8) (.tmp 84) rfl _ (bvs R).toArray rfl rfl _ (bvs zblk).toArray (heap_alloc_new _ _) (bk_info hrl) (blk_sizes zblk_len hrl) (all_oneCell_toArray (oneCell_bvs _)) ?_)
                | fail)
              refine (down_any hD6).mono ?_
              rintro e _ ⟨rfl, rfl⟩
              rw [hdn]
              have hq8 := range_regrown g6
              have hqG : ∀ w', (∃ p : Regrown, w' = grow (redrawn W6 p.d) p.os) → w'.rangeAt G (m * 128) (bvs R) := by
                rintro w' ⟨p, rfl⟩ j u hj
                exact cell_regrown (hrow6 j u hj) _ _
              have hsame := bk_same hrl
              clear g6 hW6 hb6 hb5 hrow hrow6
              go_upto_region 20 with (fail)
              refine wp_region_quiet_below (by kernel_rfl) (by kernel_rfl) ?_
              iterate 3 (quiet_step (fail))
              refine wpQuiet_load_row (by simp [Region.wanted, yielded, Act.put]) 55 _ rfl _ _ rfl (bvs R) hq8 _ Try.underlying55 rfl (bk_len hrl) ?_
              iterate 2 (quiet_step (fail))
              refine wpQuiet_load_row (by simp [Region.wanted, yielded, Act.put]) 55 _ rfl _ _ rfl (bvs R) hqG _ Try.underlying55 rfl (bk_len hrl) ?_
              iterate 2 (quiet_step (fail))
              refine wpQuiet_nil ?_
              intro _ hw'
              obtain ⟨pq, rfl⟩ := hw'
              have hbV := below_regrown W6 pq.d pq.os
              generalize grow (redrawn W6 pq.d) pq.os = V at *
              have hDV := hD6.below hbV
              have hBV := hB6.trans (hbV.mono hB6.size)
              have bGV := bBlk hbV (Array.getElem?_eq_some_iff.1 bG6).1 bG6
              clear hD6 hB6 bG6 hq8 hqG hsame hbV
              go_wp2_with fail
              go_roundw
              case rel => exact ⟨k + 1, s2, v2, (wl.set m (fillB x.v)), by go_num, by omega, by omega, by omega, hwbl, hDV, hBV, hL2, bGV, hno2⟩
              case measure => simp [intOf]; omega
            · have e1 : s2.read m = zblk := by simp [DS.read, hin, hdn]
              have e2 : s2.readE m = 12 := by simp [DS.readE, hin, hdn]
              simp only [e1, e2] at hr
              unfold bkv dp at hr
              clear e1 e2 hRe hlk hin hrow
              go_wp2_with fail
              refine (hr _ hD4).mono ?_
              rintro e W5 ⟨rfl, hb5⟩
              obtain ⟨W6, hW6⟩ : ∃ W6, World.setRow (W5.alloc (.cells (bvs zblk).toArray 55)) W5.heap.size (bvs zblk).toArray = W6 := ⟨_, rfl⟩
              have hb6 : Below W5.heap.size W5 W6 := by rw [← hW6]; exact bSetRow ((Below.refl _ _).alloc (Nat.le_refl _) _) (Nat.le_refl _) _
              have g6 : W6.heap[W5.heap.size]? = some (.cells (bvs zblk).toArray 55) := by rw [← hW6]; exact setRow_heap _ _ _ _ _ _ (heap_alloc_new _ _)
              have hD6 := (hD4.below hb5).below hb6
              have hz5 := hb5.size
              have hB6 := hB4.trans ((hb5.mono (by omega)).trans (hb6.mono (by omega)))
              have hq8 : W6.rangeAt W5.heap.size 0 (bvs zblk) := fun j u hj => by rw [Nat.zero_add]; exact blk_cell g6 (by simpa using hj)
              have hsame := bk_same zblk_len
              clear hr
              go_wp2_with (first
                | (refine wpList_new rfl blkZ rfl ?_)
                | (refine wpList_store_row rfl 55 (.tmp 8) (.tmp 84) rfl _ (bvs zblk).toArray rfl rfl _ (bvs zblk).toArray (heap_alloc_new _ _) (bk_info zblk_len) rfl (all_oneCell_toArray (oneCell_bvs _)) ?_)
                | fail)
              refine (down_any hD6).mono ?_
              rintro e _ ⟨rfl, rfl⟩
              rw [hdn]
              go_wp2_with (first
                | (refine wpList_load_mid_g (by simp [Region.wanted, yielded, Act.put]) 55 (.tmp 8) rfl W5.heap.size 0 rfl (bvs zblk) _ hq8 Try.underlying55 rfl (bk_len zblk_len) ?_)
                | fail)
              refine (wakes01_any _).mono ?_
              rintro e W7 ⟨rfl, hb7⟩
              go_wp2
              go_ret
              exact Ret.mk rfl (hB6.trans (hb7.mono hB6.size))
          · have hL2 : Like wl (s.write (m : Int) (fillB x.v)) := like_same hL (fun j => by rw [rd_write, if_neg (fun hh => he hh.1)])
            obtain ⟨s2, hs2e⟩ : ∃ s2, s.write (m : Int) (fillB x.v) = s2 := ⟨_, rfl⟩
            rw [hs2e] at hD2 hq hL2 hwbl
            obtain ⟨qe, hqe⟩ : ∃ qe, s.writeE (m : Int) = qe := ⟨_, rfl⟩
            rw [hqe] at he ⊢
            have hd0 : decide (qe = 0) = false := by simp [he]
            clear hs2e hqe hL q2
            go_upto_region 17 with (fail)
            clear hd0 he
            have hin : s2.inB (m : Int) = true := DS.inB_iff.2 ⟨by omega, by rw [hwbl]; omega⟩
            have hr := fun W (h : Dk W w.heap.size (w.heap.size + 1) w.heap.size v2 s2) => read_any h (by omega) (m : Int)
            have hrl := rd_len hD2.ok m
            have hlk := hL2.2.2 m hm0
            obtain ⟨R, hRe⟩ : ∃ R, rd s2 m = R := ⟨_, rfl⟩
            have hrow := bcs_at bG2 hL2.2.1 (hlk.trans (by rw [hRe]))
            rw [hRe] at hrl
            have hGl2 := (Array.getElem?_eq_some_iff.1 bG2).1
            cases hdn : s2.down
            · have e1 : s2.read m = R := by rw [← hRe]; simp [DS.read, hin, hdn, rd]
              have e2 : s2.readE m = 0 := by simp [DS.readE, hin, hdn]
              simp only [e1, e2] at hr
              unfold bkv dp at hr
              clear e1 e2 hRe hlk hin
              go_wp2_with fail
              refine (hr _ hD2).mono ?_
              rintro e W5 ⟨rfl, hb5⟩
              obtain ⟨W6, hW6⟩ : ∃ W6, World.setRow (W5.alloc (.cells (bvs zblk).toArray 55)) W5.heap.size (bvs R).toArray = W6 := ⟨_, rfl⟩
              have hb6 : Below W5.heap.size W5 W6 := by rw [← hW6]; exact bSetRow ((Below.refl _ _).alloc (Nat.le_refl _) _) (Nat.le_refl _) _
              have g6 : W6.heap[W5.heap.size]? = some (.cells (bvs R).toArray 55) := by rw [← hW6]; exact setRow_heap _ _ _ _ _ _ (heap_alloc_new _ _)
              have hD5 := hD2.below hb5
              have hD6 := hD5.below hb6
              have hz5 := hb5.size
              have hrow6 := bRange hb6 (by omega) (bRange hb5 hGl2 hrow)
              have bG6 := bBlk hb6 (by omega) (bBlk hb5 hGl2 bG2)
              have hB6 := hB2.trans ((hb5.mono (by omega)).trans (hb6.mono (by omega)))
              clear hr hD5
              go_wp2_with (first
                | (refine wpList_new rfl blkZ rfl ?_)
                | (refine wpList_store_row rfl 55 (.tmp 8) (.tmp 84) rfl _ (bvs R).toArray rfl rfl _ (bvs zblk).toArray (heap_alloc_new _ _) (bk_info hrl) (blk_sizes zblk_len hrl) (all_oneCell_toArray (oneCell_bvs _)) ?_)
                | fail)
              refine (down_any hD6).mono ?_
              rintro e _ ⟨rfl, rfl⟩
              rw [hdn]
              have hq8 := range_regrown g6
              have hqG : ∀ w', (∃ p : Regrown, w' = grow (redrawn W6 p.d) p.os) → w'.rangeAt G (m * 128) (bvs R) := by
                rintro w' ⟨p, rfl⟩ j u hj
                exact cell_regrown (hrow6 j u hj) _ _
              have hsame := bk_same hrl
              clear g6 hW6 hb6 hb5 hrow hrow6
              go_upto_region 20 with (fail)
              refine wp_region_quiet_below (by kernel_rfl) (by kernel_rfl) ?_
              iterate 3 (quiet_step (fail))
              refine wpQuiet_load_row (by simp [Region.wanted, yielded, Act.put]) 55 _ rfl _ _ rfl (bvs R) hq8 _ Try.underlying55 rfl (bk_len hrl) ?_
              iterate 2 (quiet_step (fail))
              refine wpQuiet_load_row (by simp [Region.wanted, yielded, Act.put]) 55 _ rfl _ _ rfl (bvs R) hqG _ Try.underlying55 rfl (bk_len hrl) ?_
              iterate 2 (quiet_step (fail))
              refine wpQuiet_nil ?_
              intro _ hw'
              obtain ⟨pq, rfl⟩ := hw'
              have hbV := below_regrown W6 pq.d pq.os
              generalize grow (redrawn W6 pq.d) pq.os = V at *
              have hDV := hD6.below hbV
              have hBV := hB6.trans (hbV.mono hB6.size)
              have bGV := bBlk hbV (Array.getElem?_eq_some_iff.1 bG6).1 bG6
              clear hD6 hB6 bG6 hq8 hqG hsame hbV
              go_wp2_with fail
              go_roundw
              case rel => exact ⟨k + 1, s2, v2, wl, by go_num, by omega, by omega, by omega, hwbl, hDV, hBV, hL2, bGV, hno2⟩
              case measure => simp [intOf]; omega
            · have e1 : s2.read m = zblk := by simp [DS.read, hin, hdn]
              have e2 : s2.readE m = 12 := by simp [DS.readE, hin, hdn]
              simp only [e1, e2] at hr
              unfold bkv dp at hr
              clear e1 e2 hRe hlk hin hrow
              go_wp2_with fail
              refine (hr _ hD2).mono ?_
              rintro e W5 ⟨rfl, hb5⟩
              obtain ⟨W6, hW6⟩ : ∃ W6, World.setRow (W5.alloc (.cells (bvs zblk).toArray 55)) W5.heap.size (bvs zblk).toArray = W6 := ⟨_, rfl⟩
              have hb6 : Below W5.heap.size W5 W6 := by rw [← hW6]; exact bSetRow ((Below.refl _ _).alloc (Nat.le_refl _) _) (Nat.le_refl _) _
              have g6 : W6.heap[W5.heap.size]? = some (.cells (bvs zblk).toArray 55) := by rw [← hW6]; exact setRow_heap _ _ _ _ _ _ (heap_alloc_new _ _)
              have hD6 := (hD2.below hb5).below hb6
              have hz5 := hb5.size
              have hB6 := hB2.trans ((hb5.mono (by omega)).trans (hb6.mono (by omega)))
              have hq8 : W6.rangeAt W5.heap.size 0 (bvs zblk) := fun j u hj => by rw [Nat.zero_add]; exact blk_cell g6 (by simpa using hj)
              have hsame := bk_same zblk_len
              clear hr
              go_wp2_with (first
                | (refine wpList_new rfl blkZ rfl ?_)
                | (refine wpList_store_row rfl 55 (.tmp 8) (.tmp 84) rfl _ (bvs zblk).toArray rfl rfl _ (bvs zblk).toArray (heap_alloc_new _ _) (bk_info zblk_len) rfl (all_oneCell_toArray (oneCell_bvs _)) ?_)
                | fail)
              refine (down_any hD6).mono ?_
              rintro e _ ⟨rfl, rfl⟩
              rw [hdn]
              go_wp2_with (first
                | (refine wpList_load_mid_g (by simp [Region.wanted, yielded, Act.put]) 55 (.tmp 8) rfl W5.heap.size 0 rfl (bvs zblk) _ hq8 Try.underlying55 rfl (bk_len zblk_len) ?_)
                | fail)
              refine (wakes01_any _).mono ?_
              rintro e W7 ⟨rfl, hb7⟩
              go_wp2
              go_ret
              exact Ret.mk rfl (hB6.trans (hb7.mono hB6.size))
        · by_cases k2 : x.kind = 2
          · -- Sync
            rw [k2] at q0
            have hq := sync_cnt' s
            have hwbl := (sync_bl s).trans hbl
            have hL2 : Like wl s.sync := like_same hL (rd_sync hD.ok)
            go_wp2_with fail
            refine (sync_any hD (by omega) (by omega)).mono ?_
            rintro e W2 ⟨rfl, v2, hD2, hs2⟩
            obtain ⟨hno2, e2⟩ := hs2.far hno (by omega)
            have hB2 := hB.trans (hs2.below hD)
            have bG2 := e2.trans bG
            have hz2 := hs2.but.size
            clear hD hB bG e2 hs2 q0 q2 hL hfl
            obtain ⟨s2, hs2e⟩ : ∃ s2, s.sync = s2 := ⟨_, rfl⟩
            rw [hs2e] at hD2 hq hL2 hwbl
            clear hs2e
            go_upto_region 17 with (fail)
            have hin : s2.inB (m : Int) = true := DS.inB_iff.2 ⟨by omega, by rw [hwbl]; omega⟩
            have hr := fun W (h : Dk W w.heap.size (w.heap.size + 1) w.heap.size v2 s2) => read_any h (by omega) (m : Int)
            have hrl := rd_len hD2.ok m
            have hlk := hL2.2.2 m hm0
            obtain ⟨R, hRe⟩ : ∃ R, rd s2 m = R := ⟨_, rfl⟩
            have hrow := bcs_at bG2 hL2.2.1 (hlk.trans (by rw [hRe]))
            rw [hRe] at hrl
            have hGl2 := (Array.getElem?_eq_some_iff.1 bG2).1
            cases hdn : s2.down
            · have e1 : s2.read m = R := by rw [← hRe]; simp [DS.read, hin, hdn, rd]
              have e2 : s2.readE m = 0 := by simp [DS.readE, hin, hdn]
              simp only [e1, e2] at hr
              unfold bkv dp at hr
              clear e1 e2 hRe hlk hin
              go_wp2_with fail
              refine (hr _ hD2).mono ?_
              rintro e W5 ⟨rfl, hb5⟩
              obtain ⟨W6, hW6⟩ : ∃ W6, World.setRow (W5.alloc (.cells (bvs zblk).toArray 55)) W5.heap.size (bvs R).toArray = W6 := ⟨_, rfl⟩
              have hb6 : Below W5.heap.size W5 W6 := by rw [← hW6]; exact bSetRow ((Below.refl _ _).alloc (Nat.le_refl _) _) (Nat.le_refl _) _
              have g6 : W6.heap[W5.heap.size]? = some (.cells (bvs R).toArray 55) := by rw [← hW6]; exact setRow_heap _ _ _ _ _ _ (heap_alloc_new _ _)
              have hD5 := hD2.below hb5
              have hD6 := hD5.below hb6
              have hz5 := hb5.size
              have hrow6 := bRange hb6 (by omega) (bRange hb5 hGl2 hrow)
              have bG6 := bBlk hb6 (by omega) (bBlk hb5 hGl2 bG2)
              have hB6 := hB2.trans ((hb5.mono (by omega)).trans (hb6.mono (by omega)))
              clear hr hD5
              go_wp2_with (first
                | (refine wpList_new rfl blkZ rfl ?_)
                | (refine wpList_store_row rfl 55 (.tmp 8) (.tmp 84) rfl _ (bvs R).toArray rfl rfl _ (bvs zblk).toArray (heap_alloc_new _ _) (bk_info hrl) (blk_sizes zblk_len hrl) (all_oneCell_toArray (oneCell_bvs _)) ?_)
                | fail)
              refine (down_any hD6).mono ?_
              rintro e _ ⟨rfl, rfl⟩
              rw [hdn]
              have hq8 := range_regrown g6
              have hqG : ∀ w', (∃ p : Regrown, w' = grow (redrawn W6 p.d) p.os) → w'.rangeAt G (m * 128) (bvs R) := by
                rintro w' ⟨p, rfl⟩ j u hj
                exact cell_regrown (hrow6 j u hj) _ _
              have hsame := bk_same hrl
              clear g6 hW6 hb6 hb5 hrow hrow6
              go_upto_region 20 with (fail)
              refine wp_region_quiet_below (by kernel_rfl) (by kernel_rfl) ?_
              iterate 3 (quiet_step (fail))
              refine wpQuiet_load_row (by simp [Region.wanted, yielded, Act.put]) 55 _ rfl _ _ rfl (bvs R) hq8 _ Try.underlying55 rfl (bk_len hrl) ?_
              iterate 2 (quiet_step (fail))
              refine wpQuiet_load_row (by simp [Region.wanted, yielded, Act.put]) 55 _ rfl _ _ rfl (bvs R) hqG _ Try.underlying55 rfl (bk_len hrl) ?_
              iterate 2 (quiet_step (fail))
              refine wpQuiet_nil ?_
              intro _ hw'
              obtain ⟨pq, rfl⟩ := hw'
              have hbV := below_regrown W6 pq.d pq.os
              generalize grow (redrawn W6 pq.d) pq.os = V at *
              have hDV := hD6.below hbV
              have hBV := hB6.trans (hbV.mono hB6.size)
              have bGV := bBlk hbV (Array.getElem?_eq_some_iff.1 bG6).1 bG6
              clear hD6 hB6 bG6 hq8 hqG hsame hbV
              go_wp2_with fail
              go_roundw
              case rel => exact ⟨k + 1, s2, v2, wl, by go_num, by omega, by omega, by omega, hwbl, hDV, hBV, hL2, bGV, hno2⟩
              case measure => simp [intOf]; omega
            · have e1 : s2.read m = zblk := by simp [DS.read, hin, hdn]
              have e2 : s2.readE m = 12 := by simp [DS.readE, hin, hdn]
              simp only [e1, e2] at hr
              unfold bkv dp at hr
              clear e1 e2 hRe hlk hin hrow
              go_wp2_with fail
              refine (hr _ hD2).mono ?_
              rintro e W5 ⟨rfl, hb5⟩
              obtain ⟨W6, hW6⟩ : ∃ W6, World.setRow (W5.alloc (.cells (bvs zblk).toArray 55)) W5.heap.size (bvs zblk).toArray = W6 := ⟨_, rfl⟩
              have hb6 : Below W5.heap.size W5 W6 := by rw [← hW6]; exact bSetRow ((Below.refl _ _).alloc (Nat.le_refl _) _) (Nat.le_refl _) _
              have g6 : W6.heap[W5.heap.size]? = some (.cells (bvs zblk).toArray 55) := by rw [← hW6]; exact setRow_heap _ _ _ _ _ _ (heap_alloc_new _ _)
              have hD6 := (hD2.below hb5).below hb6
              have hz5 := hb5.size
              have hB6 := hB2.trans ((hb5.mono (by omega)).trans (hb6.mono (by omega)))
              have hq8 : W6.rangeAt W5.heap.size 0 (bvs zblk) := fun j u hj => by rw [Nat.zero_add]; exact blk_cell g6 (by simpa using hj)
              have hsame := bk_same zblk_len
              clear hr
              go_wp2_with (first
                | (refine wpList_new rfl blkZ rfl ?_)
                | (refine wpList_store_row rfl 55 (.tmp 8) (.tmp 84) rfl _ (bvs zblk).toArray rfl rfl _ (bvs zblk).toArray (heap_alloc_new _ _) (bk_info zblk_len) rfl (all_oneCell_toArray (oneCell_bvs _)) ?_)
                | fail)
              refine (down_any hD6).mono ?_
              rintro e _ ⟨rfl, rfl⟩
              rw [hdn]
              go_wp2_with (first
                | (refine wpList_load_mid_g (by simp [Region.wanted, yielded, Act.put]) 55 (.tmp 8) rfl W5.heap.size 0 rfl (bvs zblk) _ hq8 Try.underlying55 rfl (bk_len zblk_len) ?_)
                | fail)
              refine (wakes01_any _).mono ?_
              rintro e W7 ⟨rfl, hb7⟩
              go_wp2
              go_ret
              exact Ret.mk rfl (hB6.trans (hb7.mono hB6.size))
          · by_cases k4 : x.kind = 4
            · -- Fuse
              rw [k4] at q0
              have hL2 : Like wl (s.fuseTo (m : Int)) := like_same hL (rd_fuse s _)
              go_wp2_with fail
              refine (fuse_any hD (m : Int) (by omega)).mono ?_
              rintro e W2 ⟨rfl, hD2, hs2⟩
              obtain ⟨hno2, e2⟩ := (DStep.of_but hs2).far hno (by omega)
              have hB2 := hB.trans ((DStep.of_but hs2).below hD)
              have bG2 := e2.trans bG
              have hz2 := hs2.size
              have hq : (s.fuseTo (m : Int)).done ≤ s.done + 1 ∧ (s.fuseTo (m : Int)).lo.length ≤ s.lo.length + 1 := ⟨Nat.le_succ _, Nat.le_succ _⟩
              have hwbl : (s.fuseTo (m : Int)).bl.length = 16 := hbl
              clear hD hB bG e2 hs2 q0 q2 hL hfl
              obtain ⟨s2, hs2e⟩ : ∃ s2, s.fuseTo (m : Int) = s2 := ⟨_, rfl⟩
              rw [hs2e] at hD2 hq hL2 hwbl
              clear hs2e
              go_upto_region 17 with (fail)
              have hin : s2.inB (m : Int) = true := DS.inB_iff.2 ⟨by omega, by rw [hwbl]; omega⟩
              have hr := fun W (h : Dk W w.heap.size (w.heap.size + 1) w.heap.size v s2) => read_any h (by omega) (m : Int)
              have hrl := rd_len hD2.ok m
              have hlk := hL2.2.2 m hm0
              obtain ⟨R, hRe⟩ : ∃ R, rd s2 m = R := ⟨_, rfl⟩
              have hrow := bcs_at bG2 hL2.2.1 (hlk.trans (by rw [hRe]))
              rw [hRe] at hrl
              have hGl2 := (Array.getElem?_eq_some_iff.1 bG2).1
              cases hdn : s2.down
              · have e1 : s2.read m = R := by rw [← hRe]; simp [DS.read, hin, hdn, rd]
                have e2 : s2.readE m = 0 := by simp [DS.readE, hin, hdn]
                simp only [e1, e2] at hr
                unfold bkv dp at hr
                clear e1 e2 hRe hlk hin
                go_wp2_with fail
                refine (hr _ hD2).mono ?_
                rintro e W5 ⟨rfl, hb5⟩
                obtain ⟨W6, hW6⟩ : ∃ W6, World.setRow (W5.alloc (.cells (bvs zblk).toArray 55)) W5.heap.size (bvs R).toArray = W6 := ⟨_, rfl⟩
                have hb6 : Below W5.heap.size W5 W6 := by rw [← hW6]; exact bSetRow ((Below.refl _ _).alloc (Nat.le_refl _) _) (Nat.le_refl _) _
                have g6 : W6.heap[W5.heap.size]? = some (.cells (bvs R).toArray 55) := by rw [← hW6]; exact setRow_heap _ _ _ _ _ _ (heap_alloc_new _ _)
                have hD5 := hD2.below hb5
                have hD6 := hD5.below hb6
                have hz5 := hb5.size
                have hrow6 := bRange hb6 (by omega) (bRange hb5 hGl2 hrow)
                have bG6 := bBlk hb6 (by omega) (bBlk hb5 hGl2 bG2)
                have hB6 := hB2.trans ((hb5.mono (by omega)).trans (hb6.mono (by omega)))
                clear hr hD5
                go_wp2_with (first
                  | (refine wpList_new rfl blkZ rfl ?_)
                  | (refine wpList_store_row rfl 55 (.tmp 8) (.tmp 84) rfl _ (bvs R).toArray rfl rfl _ (bvs zblk).toArray (heap_alloc_new _ _) (bk_info hrl) (blk_sizes zblk_len hrl) (all_oneCell_toArray (oneCell_bvs _)) ?_)
                  | fail)
                refine (down_any hD6).mono ?_
                rintro e _ ⟨rfl, rfl⟩
                rw [hdn]
                have hq8 := range_regrown g6
                have hqG : ∀ w', (∃ p : Regrown, w' = grow (redrawn W6 p.d) p.os) → w'.rangeAt G (m * 128) (bvs R) := by
                  rintro w' ⟨p, rfl⟩ j u hj
                  exact cell_regrown (hrow6 j u hj) _ _
                have hsame := bk_same hrl
                clear g6 hW6 hb6 hb5 hrow hrow6
                go_upto_region 20 with (fail)
                refine wp_region_quiet_below (by kernel_rfl) (by kernel_rfl) ?_
                iterate 3 (quiet_step (fail))
                refine wpQuiet_load_row (by simp [Region.wanted, yielded, Act.put]) 55 _ rfl _ _ rfl (bvs R) hq8 _ Try.underlying55 rfl (bk_len hrl) ?_
                iterate 2 (quiet_step (fail))
                refine wpQuiet_load_row (by simp [Region.wanted, yielded, Act.put]) 55 _ rfl _ _ rfl (bvs R) hqG _ Try.underlying55 rfl (bk_len hrl) ?_
                iterate 2 (quiet_step (fail))
                refine wpQuiet_nil ?_
                intro _ hw'
                obtain ⟨pq, rfl⟩ := hw'
                have hbV := below_regrown W6 pq.d pq.os
                generalize grow (redrawn W6 pq.d) pq.os = V at *
                have hDV := hD6.below hbV
                have hBV := hB6.trans (hbV.mono hB6.size)
                have bGV := bBlk hbV (Array.getElem?_eq_some_iff.1 bG6).1 bG6
                clear hD6 hB6 bG6 hq8 hqG hsame hbV
                go_wp2_with fail
                go_roundw
                case rel => exact ⟨k + 1, s2, v, wl, by go_num, by omega, by omega, by omega, hwbl, hDV, hBV, hL2, bGV, hno2⟩
                case measure => simp [intOf]; omega
              · have e1 : s2.read m = zblk := by simp [DS.read, hin, hdn]
                have e2 : s2.readE m = 12 := by simp [DS.readE, hin, hdn]
                simp only [e1, e2] at hr
                unfold bkv dp at hr
                clear e1 e2 hRe hlk hin hrow
                go_wp2_with fail
                refine (hr _ hD2).mono ?_
                rintro e W5 ⟨rfl, hb5⟩
                obtain ⟨W6, hW6⟩ : ∃ W6, World.setRow (W5.alloc (.cells (bvs zblk).toArray 55)) W5.heap.size (bvs zblk).toArray = W6 := ⟨_, rfl⟩
                have hb6 : Below W5.heap.size W5 W6 := by rw [← hW6]; exact bSetRow ((Below.refl _ _).alloc (Nat.le_refl _) _) (Nat.le_refl _) _
                have g6 : W6.heap[W5.heap.size]? = some (.cells (bvs zblk).toArray 55) := by rw [← hW6]; exact setRow_heap _ _ _ _ _ _ (heap_alloc_new _ _)
                have hD6 := (hD2.below hb5).below hb6
                have hz5 := hb5.size
                have hB6 := hB2.trans ((hb5.mono (by omega)).trans (hb6.mono (by omega)))
                have hq8 : W6.rangeAt W5.heap.size 0 (bvs zblk) := fun j u hj => by rw [Nat.zero_add]; exact blk_cell g6 (by simpa using hj)
                have hsame := bk_same zblk_len
                clear hr
                go_wp2_with (first
                  | (refine wpList_new rfl blkZ rfl ?_)
                  | (refine wpList_store_row rfl 55 (.tmp 8) (.tmp 84) rfl _ (bvs zblk).toArray rfl rfl _ (bvs zblk).toArray (heap_alloc_new _ _) (bk_info zblk_len) rfl (all_oneCell_toArray (oneCell_bvs _)) ?_)
                  | fail)
                refine (down_any hD6).mono ?_
                rintro e _ ⟨rfl, rfl⟩
                rw [hdn]
                go_wp2_with (first
                  | (refine wpList_load_mid_g (by simp [Region.wanted, yielded, Act.put]) 55 (.tmp 8) rfl W5.heap.size 0 rfl (bvs zblk) _ hq8 Try.underlying55 rfl (bk_len zblk_len) ?_)
                  | fail)
                refine (wakes01_any _).mono ?_
                rintro e W7 ⟨rfl, hb7⟩
                go_wp2
                go_ret
                exact Ret.mk rfl (hB6.trans (hb7.mono hB6.size))
            · -- none of these
              have d0 : decide (x.kind = 0) = false := by simp [k0]
              have d2 : decide (x.kind = 2) = false := by simp [k2]
              have d4 : decide (x.kind = 4) = false := by simp [k4]
              go_upto_region 17 with (fail)
              clear d0 d2 d4 q0 q2 hfl
              have hin : s.inB (m : Int) = true := DS.inB_iff.2 ⟨by omega, by rw [hbl]; omega⟩
              have hr := fun W (h : Dk W w.heap.size (w.heap.size + 1) w.heap.size v s) => read_any h (by omega) (m : Int)
              have hrl := rd_len hD.ok m
              have hlk := hL.2.2 m hm0
              obtain ⟨R, hRe⟩ : ∃ R, rd s m = R := ⟨_, rfl⟩
              have hrow := bcs_at bG hL.2.1 (hlk.trans (by rw [hRe]))
              rw [hRe] at hrl
              have hGl2 := (Array.getElem?_eq_some_iff.1 bG).1
              cases hdn : s.down
              · have e1 : s.read m = R := by rw [← hRe]; simp [DS.read, hin, hdn, rd]
                have e2 : s.readE m = 0 := by simp [DS.readE, hin, hdn]
                simp only [e1, e2] at hr
                unfold bkv dp at hr
                clear e1 e2 hRe hlk hin
                go_wp2_with fail
                refine (hr _ hD).mono ?_
                rintro e W5 ⟨rfl, hb5⟩
                obtain ⟨W6, hW6⟩ : ∃ W6, World.setRow (W5.alloc (.cells (bvs zblk).toArray 55)) W5.heap.size (bvs R).toArray = W6 := ⟨_, rfl⟩
                have hb6 : Below W5.heap.size W5 W6 := by rw [← hW6]; exact bSetRow ((Below.refl _ _).alloc (Nat.le_refl _) _) (Nat.le_refl _) _
                have g6 : W6.heap[W5.heap.size]? = some (.cells (bvs R).toArray 55) := by rw [← hW6]; exact setRow_heap _ _ _ _ _ _ (heap_alloc_new _ _)
                have hD5 := hD.below hb5
                have hD6 := hD5.below hb6
                have hz5 := hb5.size
                have hrow6 := bRange hb6 (by omega) (bRange hb5 hGl2 hrow)
                have bG6 := bBlk hb6 (by omega) (bBlk hb5 hGl2 bG)
                have hB6 := hB.trans ((hb5.mono (by omega)).trans (hb6.mono (by omega)))
                clear hr hD5
                go_wp2_with (first
                  | (refine wpList_new rfl blkZ rfl ?_)
                  | (refine wpList_store_row rfl 55 (.tmp 8) (.tmp 84) rfl _ (bvs R).toArray rfl rfl _ (bvs zblk).toArray (heap_alloc_new _ _) (bk_info hrl) (blk_sizes zblk_len hrl) (all_oneCell_toArray (oneCell_bvs _)) ?_)
                  | fail)
                refine (down_any hD6).mono ?_
                rintro e _ ⟨rfl, rfl⟩
                rw [hdn]
                have hq8 := range_regrown g6
                have hqG : ∀ w', (∃ p : Regrown, w' = grow (redrawn W6 p.d) p.os) → w'.rangeAt G (m * 128) (bvs R) := by
                  rintro w' ⟨p, rfl⟩ j u hj
                  exact cell_regrown (hrow6 j u hj) _ _
                have hsame := bk_same hrl
                clear g6 hW6 hb6 hb5 hrow hrow6
                go_upto_region 20 with (fail)
                refine wp_region_quiet_below (by kernel_rfl) (by kernel_rfl) ?_
                iterate 3 (quiet_step (fail))
                refine wpQuiet_load_row (by simp [Region.wanted, yielded, Act.put]) 55 _ rfl _ _ rfl (bvs R) hq8 _ Try.underlying55 rfl (bk_len hrl) ?_
                iterate 2 (quiet_step (fail))
                refine wpQuiet_load_row (by simp [Region.wanted, yielded, Act.put]) 55 _ rfl _ _ rfl (bvs R) hqG _ Try.underlying55 rfl (bk_len hrl) ?_
                iterate 2 (quiet_step (fail))
                refine wpQuiet_nil ?_
                intro _ hw'
                obtain ⟨pq, rfl⟩ := hw'
                have hbV := below_regrown W6 pq.d pq.os
                generalize grow (redrawn W6 pq.d) pq.os = V at *
                have hDV := hD6.below hbV
                have hBV := hB6.trans (hbV.mono hB6.size)
                have bGV := bBlk hbV (Array.getElem?_eq_some_iff.1 bG6).1 bG6
                clear hD6 hB6 bG6 hq8 hqG hsame hbV
                go_wp2_with fail
                go_roundw
                case rel => exact ⟨k + 1, s, v, wl, by go_num, by omega, by omega, by omega, hbl, hDV, hBV, hL, bGV, hno⟩
                case measure => simp [intOf]; omega
              · have e1 : s.read m = zblk := by simp [DS.read, hin, hdn]
                have e2 : s.readE m = 12 := by simp [DS.readE, hin, hdn]
                simp only [e1, e2] at hr
                unfold bkv dp at hr
                clear e1 e2 hRe hlk hin hrow
                go_wp2_with fail
                refine (hr _ hD).mono ?_
                rintro e W5 ⟨rfl, hb5⟩
                obtain ⟨W6, hW6⟩ : ∃ W6, World.setRow (W5.alloc (.cells (bvs zblk).toArray 55)) W5.heap.size (bvs zblk).toArray = W6 := ⟨_, rfl⟩
                have hb6 : Below W5.heap.size W5 W6 := by rw [← hW6]; exact bSetRow ((Below.refl _ _).alloc (Nat.le_refl _) _) (Nat.le_refl _) _
                have g6 : W6.heap[W5.heap.size]? = some (.cells (bvs zblk).toArray 55) := by rw [← hW6]; exact setRow_heap _ _ _ _ _ _ (heap_alloc_new _ _)
                have hD6 := (hD.below hb5).below hb6
                have hz5 := hb5.size
                have hB6 := hB.trans ((hb5.mono (by omega)).trans (hb6.mono (by omega)))
                have hq8 : W6.rangeAt W5.heap.size 0 (bvs zblk) := fun j u hj => by rw [Nat.zero_add]; exact blk_cell g6 (by simpa using hj)
                have hsame := bk_same zblk_len
                clear hr
                go_wp2_with (first
                  | (refine wpList_new rfl blkZ rfl ?_)
                  | (refine wpList_store_row rfl 55 (.tmp 8) (.tmp 84) rfl _ (bvs zblk).toArray rfl rfl _ (bvs zblk).toArray (heap_alloc_new _ _) (bk_info zblk_len) rfl (all_oneCell_toArray (oneCell_bvs _)) ?_)
                  | fail)
                refine (down_any hD6).mono ?_
                rintro e _ ⟨rfl, rfl⟩
                rw [hdn]
                go_wp2_with (first
                  | (refine wpList_load_mid_g (by simp [Region.wanted, yielded, Act.put]) 55 (.tmp 8) rfl W5.heap.size 0 rfl (bvs zblk) _ hq8 Try.underlying55 rfl (bk_len zblk_len) ?_)
                  | fail)
                refine (wakes01_any _).mono ?_
                rintro e W7 ⟨rfl, hb7⟩
                go_wp2
                go_ret
                exact Ret.mk rfl (hB6.trans (hb7.mono hB6.size))
      · obtain rfl : k = l.length := by omega
        have g1 : ¬ (l.length : Int) < l.length := by omega
        clear hs hno hL
        go_wp2_with fail
        refine (wakes01_any _).mono ?_
        rintro e W2 ⟨rfl, hb2⟩
        go_wp2
        go_ret
        exact Ret.mk rfl (hB.trans (hb2.mono hB.size))

set_option maxRecDepth 100000 in
theorem diskReads_walk {H : Type} {enc : TypeId × Value → H} {W : World} {base : Nat} {v0 : Value} {d0 : DataW H} {p0 : List MemPlace}
    (k0 : Value.okWide Try.prog W .any base 42 v0) (h0 : DataW.Trod enc Try.prog W 0 (fun _ => true) true 42 v0 d0 p0)
    : Calls Try.prog 11 #[v0] W fun e W' => e = .returned (.bool true) ∧ Below W.heap.size W W' := by
  obtain ⟨A, c, l, rfl, h1, h2, h3, h4⟩ := open_steps k0 h0
  exact diskReads_core h3 h1 h2 h4
end Go.Proofs.Ythbaogjamenndaa
