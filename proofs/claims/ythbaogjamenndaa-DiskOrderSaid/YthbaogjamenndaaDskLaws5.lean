/- The statements of layer 1: DiskOrder. -/
import Derived.Test.YthbaogjamenndaaDskStep
namespace Go.Proofs.Ythbaogjamenndaa
set_option linter.unusedSimpArgs false
set_option linter.unusedVariables false
open Go.RowKit Go.ChangeShapes Go.WideShapes Go.Sort

/-! ### plain -/
def wantTo (vl kl : List UInt8) (t : Int) : Nat → Blk
  | 0 => zblk
  | i + 1 => if keeps kl i then halfOf (sizeOf' t i) (fillB (vl[i]?.getD 0)) (wantTo vl kl t i) else wantTo vl kl t i
theorem wantTo_len (vl kl : List UInt8) (t : Int) (i : Nat) : (wantTo vl kl t i).length = 128 := by
  induction i with
  | zero => exact zblk_len
  | succ i ih =>
    unfold wantTo; split
    · exact halfOf_len (sizeOf_le _ _) (fillB_len _) ih
    · exact ih
theorem halfOf_none (b a : Blk) : halfOf 0 b a = a := by simp [halfOf]
theorem halfOf_set {v : UInt8} {a : Blk} {j : Nat} (ha : a.length = 128) (hj : j < 128) : (bvs (halfOf j (fillB v) a)).toArray.setIfInBounds j (.int .u8 (v.toNat : Int)) = (bvs (halfOf (j + 1) (fillB v) a)).toArray := by
  have e : (halfOf j (fillB v) a).set j v = halfOf (j + 1) (fillB v) a := by
    apply List.ext_getElem?
    intro i
    unfold halfOf fillB
    rw [List.getElem?_set]
    simp only [List.getElem?_append, List.length_append, List.length_take, List.length_replicate, List.getElem?_take, List.getElem?_replicate, List.length_drop, List.getElem?_drop, ha]
    rcases Nat.lt_trichotomy i j with h | h | h
    · rw [if_neg (by omega), if_pos (by omega), if_pos (by omega), if_pos (by omega), if_pos (by omega), if_pos (by omega)]
    · subst h
      rw [if_pos rfl, if_pos (by omega), if_pos (by omega), if_pos (by omega), if_pos (by omega)]
    · rw [if_neg (by omega), if_neg (by omega), if_neg (by omega)]
      congr 1; omega
  rw [← e, List.setIfInBounds_toArray]
  show _ = (bvs _).toArray
  unfold bvs
  rw [List.map_set]; rfl
def o2 (v0 v1 : UInt8) : DS := ((DS.new 16).write 3 (fillB v0)).write 3 (fillB v1)
theorem o_w (s : DS) (hb : s.bl.length = 16) (hf : s.fuse = -1) (hd : s.down = false) (b : Blk) : s.writeE 3 = 0 ∧ s.write 3 b = { s.gone with lo := s.lo ++ [(3, b)] } := by
  have hin : s.inB 3 = true := DS.inB_iff.2 ⟨by omega, by rw [hb]; omega⟩
  have hst : s.stops = false := by unfold DS.stops; rw [hf, hd]; rfl
  exact ⟨by unfold DS.writeE DS.passE; simp [hin, hst], by unfold DS.write; simp [hin, hst]⟩
theorem o_read (v0 v1 : UInt8) (kl : List UInt8) (t : Int) : ((o2 v0 v1).crash kl t).readE 3 = 0 ∧ ((o2 v0 v1).crash kl t).read 3 = wantTo [v0, v1] kl t 2 ∧ (DS.new 16).writeE 3 = 0 ∧ ((DS.new 16).write 3 (fillB v0)).writeE 3 = 0 ∧
    ((DS.new 16).write 3 (fillB v0)).done = 1 ∧ ((DS.new 16).write 3 (fillB v0)).lo.length = 1 ∧ (o2 v0 v1).lo.length = 2 ∧ ((o2 v0 v1).crash kl t).lo.length = 0 := by
  have h0 := o_w (DS.new 16) rfl rfl rfl (fillB v0)
  have h1 := o_w ((DS.new 16).write 3 (fillB v0)) (by rw [h0.2]; rfl) (by rw [h0.2]; rfl) (by rw [h0.2]; rfl) (fillB v1)
  have e2 : o2 v0 v1 = ⟨List.replicate 16 zblk, [(3, fillB v0), (3, fillB v1)], -1, 2, false⟩ := by
    unfold o2; rw [h1.2, h0.2]; rfl
  have hbl : ((o2 v0 v1).crash kl t).bl.length = 16 := by
    rw [e2]; show (crashTo _ _ _ _ _).length = 16; rw [crashTo_len]; rfl
  have hin : ((o2 v0 v1).crash kl t).inB 3 = true := DS.inB_iff.2 ⟨by omega, by rw [hbl]; omega⟩
  refine ⟨by unfold DS.readE; rw [hin]; rfl, ?_, h0.1, h1.1, by rw [h0.2]; rfl, by rw [h0.2]; rfl, by rw [e2]; rfl, rfl⟩
  unfold DS.read
  rw [hin]
  simp only [if_true]
  show (if ((o2 v0 v1).crash kl t).down = true then zblk else lastOf' [] 3 (((o2 v0 v1).crash kl t).bl[3]?.getD zblk)) = _
  rw [show ((o2 v0 v1).crash kl t).down = false from rfl]
  simp only [Bool.false_eq_true, if_false]
  show ((o2 v0 v1).crash kl t).bl[3]?.getD zblk = _
  rw [e2]
  show (crash1 kl t 1 (crash1 kl t 0 (List.replicate 16 zblk) (3, fillB v0)) (3, fillB v1))[3]?.getD zblk = _
  unfold crash1 wantTo wantTo wantTo
  cases keeps kl 0 <;> cases keeps kl 1 <;> simp [List.getElem?_replicate]

set_option maxHeartbeats 8000000 in
set_option maxRecDepth 100000 in
theorem diskOrder_core {w : World} (v0 v1 k0 k1 : UInt8) (n : Int) (hn : 0 ≤ n ∧ n ≤ 255) :
    Calls Try.prog 13 #[.agg #[bv v0, bv v1], .agg #[bv k0, bv k1], .int .u8 n] w (Ret w (.bool true)) := by
  obtain ⟨t, ht, ht1⟩ : ∃ t : Int, Int.tmod n 4 - 1 = t ∧ (-1 ≤ t ∧ t ≤ 2) := ⟨_, rfl, by rw [Int.tmod_eq_emod_of_nonneg hn.1]; omega, by rw [Int.tmod_eq_emod_of_nonneg hn.1]; omega⟩
  obtain ⟨r, hr, hr9⟩ : ∃ r : Int, Int.tmod n 4 = r ∧ r - 1 = t := ⟨_, rfl, ht⟩
  have wv : IntKind.i64.wrap n = n := wrap_small _ hn.1 (by omega)
  have ws : IntKind.i64.wrap (r - 1) = t := by rw [hr9, IntKind.wrap_i64]; omega
  have hnw := fun W => new_any 16 (by omega) (by omega) W
  have f0 : ∀ W, Calls Try.prog 30 #[.int .u8 (v0.toNat : Int)] W (Ret W (.agg (bvs (fillB v0)).toArray)) := fun W => fill_any v0 W
  have f1 : ∀ W, Calls Try.prog 30 #[.int .u8 (v1.toNat : Int)] W (Ret W (.agg (bvs (fillB v1)).toArray)) := fun W => fill_any v1 W
  have ZZ := Lib.hid (o_read v0 v1 [k0, k1] t)
  clear ht
  unfold bv
  generalize hW : (w.alloc (.cells #[.int .u8 (v0.toNat : Int), .int .u8 (v1.toNat : Int)] 77)).alloc (.cells #[.int .u8 (k0.toNat : Int), .int .u8 (k1.toNat : Int)] 77) = W
  have hB : Below w.heap.size w W := by rw [← hW]; exact ((Below.refl _ _).alloc (Nat.le_refl _) _).alloc (by simp) _
  have bv0 : W.heap[w.heap.size]? = some (.cells #[.int .u8 (v0.toNat : Int), .int .u8 (v1.toNat : Int)] 77) := by rw [← hW]; exact (Below.heap_alloc _ _ _ (by simp)).trans (heap_alloc_new _ _)
  have bk0 : W.heap[w.heap.size + 1]? = some (.cells #[.int .u8 (k0.toNat : Int), .int .u8 (k1.toNat : Int)] 77) := by rw [← hW]; exact heap_alloc_two _ _ _
  have hzW : w.heap.size + 2 ≤ W.heap.size := by rw [← hW]; simp
  go_enter Try.func13, Try.ntmps13
  go_wp2_with fail
  refine (hnw _).mono ?_
  rintro e W0 ⟨rfl, hk0, hb0⟩
  have a0 := bBlk hb0 (by omega) bv0
  have a1 := bBlk hb0 (by omega) bk0
  have hB0 := hB.trans (hb0.mono (by omega))
  have q0 := blk_cell a0 (k := 0) rfl
  unfold dp
  clear hnw hW bv0 bk0 hB
  have hz0 := hb0.size
  go_wp2_with fail
  refine (f0 _).mono ?_
  rintro e W1 ⟨rfl, hb1⟩
  have hk1 := hk0.below hb1
  have hB1 := hB0.trans (hb1.mono (by omega))
  have hz1 := hb1.size
  have hw1 := write_any hk1 (by decide) (by decide) 3 (fillB_len v0)
  rw [ZZ.out.2.2.1] at hw1
  unfold bkv dp at hw1
  go_wp2_with fail
  refine hw1.mono ?_
  rintro e W2 ⟨rfl, v2, hk2, hs2⟩
  obtain ⟨s2, hs2e⟩ : ∃ s2, (DS.new 16).write 3 (fillB v0) = s2 := ⟨_, rfl⟩
  have HS2 := Lib.hid hs2e
  rw [hs2e] at hk2
  clear hs2e
  have hB2 := hB1.trans ((hs2.below hk1).mono (by omega))
  have a02 := bBlk (hs2.below hk1) (by omega) (bBlk hb1 (by omega) a0)
  have a12 := bBlk (hs2.below hk1) (by omega) (bBlk hb1 (by omega) a1)
  have hz2 := hs2.but.size
  have q1 := blk_cell a02 (k := 1) rfl
  clear hw1 hk0 hk1 hb1 hs2 a0 a1 q0 hB0 hB1
  go_wp2_with fail
  refine (f1 _).mono ?_
  rintro e W3 ⟨rfl, hb3⟩
  have hk3 := hk2.below hb3
  have hB3 := hB2.trans (hb3.mono (by omega))
  have hw3 := write_any hk3 (by rw [← HS2.out, ZZ.out.2.2.2.2.1]; omega) (by rw [← HS2.out, ZZ.out.2.2.2.2.2.1]; omega) 3 (fillB_len v1)
  rw [show s2.writeE 3 = 0 from by rw [← HS2.out]; exact ZZ.out.2.2.2.1] at hw3
  unfold bkv dp at hw3
  have hz3 := hb3.size
  go_wp2_with fail
  refine hw3.mono ?_
  rintro e W4 ⟨rfl, v4, hk4, hs4⟩
  obtain ⟨s4, hs4e⟩ : ∃ s4, s2.write 3 (fillB v1) = s4 := ⟨_, rfl⟩
  have HS4 := Lib.hid (show o2 v0 v1 = s4 by rw [← hs4e, ← HS2.out]; rfl)
  rw [hs4e] at hk4
  clear hs4e
  have hB4 := hB3.trans ((hs4.below hk3).mono (by omega))
  have a04 := bBlk (hs4.below hk3) (by omega) (bBlk hb3 (by omega) a02)
  have a14 := bBlk (hs4.below hk3) (by omega) (bBlk hb3 (by omega) a12)
  have hz4 := hs4.but.size
  clear hw3 hk2 hk3 hb3 hs4 a02 a12 q1 hB2 hB3
  have hcr := crash_any hk4 (by rw [← HS4.out, ZZ.out.2.2.2.2.2.2.1]; omega) [k0, k1] (some ⟨w.heap.size + 1, 0, none⟩) 2 (by simp) (Sl.new (n := 2) a14 rfl) (fun b o _ e hj => by cases e; have := (hk4.own_ge _ hj).1; omega) t
  obtain ⟨s5, hs5⟩ : ∃ s5, s4.crash [k0, k1] t = s5 := ⟨_, rfl⟩
  have z1 := ZZ.out.1
  have z2 := ZZ.out.2.1
  have z8 := ZZ.out.2.2.2.2.2.2.2
  rw [HS4.out, hs5] at z1 z2 z8
  rw [hs5] at hcr
  unfold dp at hcr
  simp only [List.length_cons, List.length_nil, Nat.reduceAdd] at hcr
  have Z := Lib.hid (And.intro z1 (And.intro z2 z8))
  clear hs5 z1 z2 z8 ZZ
  go_wp2_with fail
  refine hcr.mono ?_
  rintro e W5 ⟨rfl, v5, hk5, hs5⟩
  have hB5 := hB4.trans ((hs5.below hk4).mono (by omega))
  have a05 := bBlk (hs5.below hk4) (by omega) a04
  have a15 := bBlk (hs5.below hk4) (by omega) a14
  have hz5 := hs5.but.size
  clear hcr hk4 hs5 a04 a14 hB4 f0 f1
  have hC0 : ∃ W6, W6 = W5.alloc (.cells (bvs zblk).toArray 55) := ⟨_, rfl⟩
  obtain ⟨G, hG⟩ : ∃ G, W5.heap.size = G := ⟨_, rfl⟩
  go_upto_region 7 with (first | (refine wpList_new rfl blkZ rfl ?_) | fail)
  generalize hW6 : World.alloc _ _ = W6
  have g6 : W6.heap[G]? = some (.cells (bvs (wantTo [v0, v1] [k0, k1] t 0)).toArray 55) := by rw [← hW6, ← hG]; exact heap_alloc_new _ _
  have hb6 : Below W5.heap.size W5 W6 := by rw [← hW6]; exact (Below.refl _ _).alloc (Nat.le_refl _) _
  have hk6 := hk5.below hb6
  have hB6 := hB5.trans (hb6.mono (by omega))
  have a06 := bBlk hb6 (by omega) a05
  have a16 := bBlk hb6 (by omega) a15
  have hno : ¬ Own (W.heap.size + 1) W.heap.size v5 G := fun hj => by have := (hk5.own_ge _ hj).2; omega
  have hGw : w.heap.size + 2 ≤ G := by omega
  have HG := Lib.hid hG
  rw [hG]
  clear hW6 hC0 hk5 hb6 a05 a15 hB5 hG
  go_wp2_with fail
  go_loopw [11] (fun i wr => ∃ k : Nat, i = .int .i64 k ∧ k ≤ 2 ∧ wr.heap[G]? = some (.cells (bvs (wantTo [v0, v1] [k0, k1] t k)).toArray 55) ∧ wr.heap[w.heap.size]? = some (.cells #[.int .u8 (v0.toNat : Int), .int .u8 (v1.toNat : Int)] 77) ∧ wr.heap[w.heap.size + 1]? = some (.cells #[.int .u8 (k0.toNat : Int), .int .u8 (k1.toNat : Int)] 77) ∧ Dk wr W.heap.size (W.heap.size + 1) W.heap.size v5 s5 ∧ Below w.heap.size w wr) (fun i _ => 2 - (intOf i).toNat)
  case atStart => exact ⟨0, rfl, by omega, g6, a06, a16, hk6, hB6⟩
  case round =>
    clear g6 a06 a16 hk6 hB6
    rename World => Wo
    obtain ⟨k, rfl, hk, g, a0, a1, hD, hB⟩ := hrel
    by_cases hlt : k < 2
    · have g1 : (k : Int) < 2 := by omega
      obtain ⟨vk, hvk, hvl⟩ : ∃ vk : UInt8, Wo.cell? ⟨w.heap.size, k, none⟩ = some (.int .u8 (vk.toNat : Int)) ∧ ([v0, v1] : List UInt8)[k]?.getD 0 = vk := by
        match k, hlt with
        | 0, _ => exact ⟨v0, blk_cell a0 rfl, rfl⟩
        | 1, _ => exact ⟨v1, blk_cell a0 rfl, rfl⟩
      obtain ⟨kk, hkk, hkl⟩ : ∃ kk : UInt8, Wo.cell? ⟨w.heap.size + 1, k, none⟩ = some (.int .u8 (kk.toNat : Int)) ∧ keeps [k0, k1] k = (kk.toNat % 2 == 1) := by
        match k, hlt with
        | 0, _ => exact ⟨k0, blk_cell a1 rfl, rfl⟩
        | 1, _ => exact ⟨k1, blk_cell a1 rfl, rfl⟩
      have hnx : wantTo [v0, v1] [k0, k1] t (k + 1) = if keeps [k0, k1] k then halfOf (sizeOf' t k) (fillB vk) (wantTo [v0, v1] [k0, k1] t k) else wantTo [v0, v1] [k0, k1] t k := by rw [← hvl]; rfl
      have hwl := wantTo_len [v0, v1] [k0, k1] t k
      rw [hkl] at hnx
      have HNX := Lib.hid hnx
      have kk9 := kk.toNat_lt
      obtain ⟨kn, hkn⟩ : ∃ kn, kk.toNat = kn := ⟨_, rfl⟩
      rw [hkn] at hkk HNX kk9
      generalize wantTo [v0, v1] [k0, k1] t k = P at *
      clear hnx hvl hkl hkn
      have hmo : Int.tmod (kn : Int) 2 = ((kn % 2 : Nat) : Int) := by rw [Int.tmod_eq_emod_of_nonneg (by omega)]; omega
      rcases Nat.mod_two_eq_zero_or_one kn with hm | hm
      · rw [hm] at hmo HNX
        have hno1 := HNX.out
        simp only [Nat.reduceBEq, Bool.false_eq_true, if_false] at hno1
        have HN := Lib.hid hno1
        clear HNX hno1 hm
        by_cases hkt : (k : Int) = t
        · subst hkt
          have g5 : IntKind.i64.wrap ((k : Int) + 1) = ((k + 1 : Nat) : Int) := by rw [wrap_small _ (by omega) (by omega)]; omega
          go_wp2_with fail
          go_loopw [13] (fun j wq => j = .int .i64 0 ∧ wq = Wo) (fun _ _ => 0)
          case atStart => exact ⟨rfl, rfl⟩
          case round =>
            obtain ⟨rfl, rfl⟩ := hrel
            go_wp2_with fail
            go_roundw
            case rel => exact ⟨k + 1, by go_num, by omega, by rw [HN.out]; exact g, a0, a1, hD, hB⟩
            case measure => simp [intOf]; omega
        · go_wp2_with fail
          go_loopw [13] (fun j wq => j = .int .i64 0 ∧ wq = Wo) (fun _ _ => 0)
          case atStart => exact ⟨rfl, rfl⟩
          case round =>
            obtain ⟨rfl, rfl⟩ := hrel
            go_wp2_with fail
            go_roundw
            case rel => exact ⟨k + 1, by go_num, by omega, by rw [HN.out]; exact g, a0, a1, hD, hB⟩
            case measure => simp [intOf]; omega
      · rw [hm] at hmo HNX
        have hno1 := HNX.out
        simp only [beq_self_eq_true, if_true] at hno1
        have HN := Lib.hid hno1
        clear HNX hno1 hm
        by_cases hkt : (k : Int) = t
        · have hsz : sizeOf' t k = 64 := by unfold sizeOf'; rw [if_pos hkt]
          subst hkt
          have HN2 := HN.out
          rw [hsz] at HN2
          have HM := Lib.hid HN2
          clear HN2 HN hsz
          go_wp2_with fail
          go_loopw [13] (fun j wq => ∃ q : Nat, j = .int .i64 q ∧ q ≤ 64 ∧ wq.heap[G]? = some (.cells (bvs (halfOf q (fillB vk) P)).toArray 55) ∧ But Wo.heap.size (· = G) Wo wq) (fun j _ => 64 - (intOf j).toNat)
          case atStart => exact ⟨0, rfl, by omega, by rw [halfOf_none]; exact g, But.refl _ _ _⟩
          case round =>
            obtain ⟨q, rfl, hq, gq, hbt⟩ := hrel
            have hlr : w.heap.size + 1 < Wo.heap.size := (Array.getElem?_eq_some_iff.1 a1).1
            have b0 := hbt.blk (by omega) (by omega) a0
            have b1 := hbt.blk (by omega) (by omega) a1
            have cv : Wo.cell? ⟨w.heap.size, k, none⟩ = some (.int .u8 (vk.toNat : Int)) := hvk
            have cv2 : ∀ X : World, X.heap[w.heap.size]? = Wo.heap[w.heap.size]? → X.cell? ⟨w.heap.size, k, none⟩ = some (.int .u8 (vk.toNat : Int)) := fun X h => (World.cell?_of_block (a := ⟨w.heap.size, k, none⟩) h).trans hvk
            have ck2 : ∀ X : World, X.heap[w.heap.size + 1]? = Wo.heap[w.heap.size + 1]? → X.cell? ⟨w.heap.size + 1, k, none⟩ = some (.int .u8 (kn : Int)) := fun X h => (World.cell?_of_block (a := ⟨w.heap.size + 1, k, none⟩) h).trans hkk
            have cv3 := cv2 _ (hbt.block w.heap.size (by omega) (by omega))
            have ck3 := ck2 _ (hbt.block (w.heap.size + 1) (by omega) (by omega))
            by_cases hql : q < 64
            · have g4 : (q : Int) < 64 := by omega
              have g44 : (q : Int) < 128 := by omega
              have hput := halfOf_set (v := vk) hwl (show q < 128 by omega)
              have hlq : (halfOf q (fillB vk) P).length = 128 := halfOf_len (by omega) (fillB_len _) hwl
              have hc : (bvs (halfOf q (fillB vk) P)).toArray[q]? = some ((bvs (halfOf q (fillB vk) P)).toArray[q]'(by rw [List.size_toArray, bvs_len, hlq]; omega)) := Array.getElem?_eq_getElem _
              have c1 := blk_cell gq hc
              have f1 := blk_frozen gq q
              have HPUT := Lib.hid hput
              generalize (bvs (halfOf q (fillB vk) P)).toArray[q]'_ = old at c1
              clear hc hput cv cv2 ck2 hvk hkk
              go_wp2_with fail
              generalize hX : World.setCell _ _ _ = X
              have gX : X.heap[G]? = some (.cells (bvs (halfOf (q + 1) (fillB vk) P)).toArray 55) := by rw [← hX, ← HPUT.out]; exact blk_set gq q _
              have hbX : But Wo.heap.size (· = G) Wo X := by rw [← hX]; exact hbt.setp q _
              clear hX
              go_roundw
              case rel => exact ⟨q + 1, by go_num, by omega, gX, hbX⟩
              case measure => simp [intOf]; omega
            · obtain rfl : q = 64 := by omega
              have hDq := hD.kept hbt (Nat.le_refl _) (fun j hj => by rw [hj]; exact hno)
              have hBq := hB.trans (hbt.below hB.size (fun j hj => by omega))
              clear cv cv2 ck2 cv3 ck3 hvk hkk
              go_wp2_with fail
              go_roundw
              case rel => exact ⟨k + 1, by go_num, by omega, by rw [HM.out]; exact gq, b0, b1, hDq, hBq⟩
              case measure => simp [intOf]; omega
        · have hsz : sizeOf' t k = 128 := by unfold sizeOf'; rw [if_neg hkt]
          have HN2 := HN.out
          rw [hsz] at HN2
          have HM := Lib.hid HN2
          clear HN2 HN hsz
          go_wp2_with fail
          go_loopw [13] (fun j wq => ∃ q : Nat, j = .int .i64 q ∧ q ≤ 128 ∧ wq.heap[G]? = some (.cells (bvs (halfOf q (fillB vk) P)).toArray 55) ∧ But Wo.heap.size (· = G) Wo wq) (fun j _ => 128 - (intOf j).toNat)
          case atStart => exact ⟨0, rfl, by omega, by rw [halfOf_none]; exact g, But.refl _ _ _⟩
          case round =>
            obtain ⟨q, rfl, hq, gq, hbt⟩ := hrel
            have hlr : w.heap.size + 1 < Wo.heap.size := (Array.getElem?_eq_some_iff.1 a1).1
            have b0 := hbt.blk (by omega) (by omega) a0
            have b1 := hbt.blk (by omega) (by omega) a1
            have cv : Wo.cell? ⟨w.heap.size, k, none⟩ = some (.int .u8 (vk.toNat : Int)) := hvk
            have cv2 : ∀ X : World, X.heap[w.heap.size]? = Wo.heap[w.heap.size]? → X.cell? ⟨w.heap.size, k, none⟩ = some (.int .u8 (vk.toNat : Int)) := fun X h => (World.cell?_of_block (a := ⟨w.heap.size, k, none⟩) h).trans hvk
            have ck2 : ∀ X : World, X.heap[w.heap.size + 1]? = Wo.heap[w.heap.size + 1]? → X.cell? ⟨w.heap.size + 1, k, none⟩ = some (.int .u8 (kn : Int)) := fun X h => (World.cell?_of_block (a := ⟨w.heap.size + 1, k, none⟩) h).trans hkk
            have cv3 := cv2 _ (hbt.block w.heap.size (by omega) (by omega))
            have ck3 := ck2 _ (hbt.block (w.heap.size + 1) (by omega) (by omega))
            by_cases hql : q < 128
            · have g4 : (q : Int) < 128 := by omega
              have g44 : (q : Int) < 128 := by omega
              have hput := halfOf_set (v := vk) hwl (show q < 128 by omega)
              have hlq : (halfOf q (fillB vk) P).length = 128 := halfOf_len (by omega) (fillB_len _) hwl
              have hc : (bvs (halfOf q (fillB vk) P)).toArray[q]? = some ((bvs (halfOf q (fillB vk) P)).toArray[q]'(by rw [List.size_toArray, bvs_len, hlq]; omega)) := Array.getElem?_eq_getElem _
              have c1 := blk_cell gq hc
              have f1 := blk_frozen gq q
              have HPUT := Lib.hid hput
              generalize (bvs (halfOf q (fillB vk) P)).toArray[q]'_ = old at c1
              clear hc hput cv cv2 ck2 hvk hkk
              go_wp2_with fail
              generalize hX : World.setCell _ _ _ = X
              have gX : X.heap[G]? = some (.cells (bvs (halfOf (q + 1) (fillB vk) P)).toArray 55) := by rw [← hX, ← HPUT.out]; exact blk_set gq q _
              have hbX : But Wo.heap.size (· = G) Wo X := by rw [← hX]; exact hbt.setp q _
              clear hX
              go_roundw
              case rel => exact ⟨q + 1, by go_num, by omega, gX, hbX⟩
              case measure => simp [intOf]; omega
            · obtain rfl : q = 128 := by omega
              have hDq := hD.kept hbt (Nat.le_refl _) (fun j hj => by rw [hj]; exact hno)
              have hBq := hB.trans (hbt.below hB.size (fun j hj => by omega))
              clear cv cv2 ck2 cv3 ck3 hvk hkk
              go_wp2_with fail
              go_roundw
              case rel => exact ⟨k + 1, by go_num, by omega, by rw [HM.out]; exact gq, b0, b1, hDq, hBq⟩
              case measure => simp [intOf]; omega
    · obtain rfl : k = 2 := by omega
      have hr := read_any hD (by rw [Z.out.2.2]; omega) 3
      rw [Z.out.1, Z.out.2.1] at hr
      have hwl := wantTo_len [v0, v1] [k0, k1] t 2
      generalize wantTo [v0, v1] [k0, k1] t 2 = P at *
      unfold bkv dp at hr
      have hGl := (Array.getElem?_eq_some_iff.1 g).1
      go_wp2_with fail
      refine hr.mono ?_
      rintro e W7 ⟨rfl, hb7⟩
      obtain ⟨W8, hW8⟩ : ∃ W8, World.setRow (W7.alloc (.cells (bvs zblk).toArray 55)) W7.heap.size (bvs P).toArray = W8 := ⟨_, rfl⟩
      have hb8 : Below W7.heap.size W7 W8 := by rw [← hW8]; exact bSetRow ((Below.refl _ _).alloc (Nat.le_refl _) _) (Nat.le_refl _) _
      have g8 : W8.heap[W7.heap.size]? = some (.cells (bvs P).toArray 55) := by rw [← hW8]; exact setRow_heap _ _ _ _ _ _ (heap_alloc_new _ _)
      have hz7 := hb7.size
      have gG := bBlk hb8 (by omega) (bBlk hb7 hGl g)
      have hB8 := hB.trans ((hb7.mono hB.size).trans (hb8.mono (by have := hB.size; omega)))
      have r8 : W8.rangeAt W7.heap.size 0 (bvs P) := fun j u hj => by rw [Nat.zero_add]; exact blk_cell g8 (by simpa using hj)
      have rG : W8.rangeAt G 0 (bvs P) := fun j u hj => by rw [Nat.zero_add]; exact blk_cell gG (by simpa using hj)
      have hsame := bk_same hwl
      clear hr g8 gG hb8 hb7 a0 a1 hD g
      go_wp2_with (first
        | (refine wpList_new rfl blkZ rfl ?_)
        | (refine wpList_store_row rfl 55 (.tmp 14) (.tmp 77) rfl _ (bvs P).toArray rfl rfl _ (bvs zblk).toArray (heap_alloc_new _ _) (bk_info hwl) (blk_sizes zblk_len hwl) (all_oneCell_toArray (oneCell_bvs _)) ?_)
        | (refine wpList_load_mid_g (by simp [Region.wanted, yielded, Act.put]) 55 (.tmp 14) rfl W7.heap.size 0 rfl (bvs P) _ r8 Try.underlying55 rfl (bk_len hwl) ?_)
        | (refine wpList_load_mid_g (by simp [Region.wanted, yielded, Act.put]) 55 (.tmp 10) rfl G 0 rfl (bvs P) _ rG Try.underlying55 rfl (bk_len hwl) ?_)
        | fail)
      refine (wakes01_any _).mono ?_
      rintro e W9 ⟨rfl, hb9⟩
      go_wp2
      go_ret
      exact Ret.mk rfl (hB8.trans (hb9.mono hB8.size))

set_option maxRecDepth 100000 in
theorem diskOrder_walk {H : Type} {enc : TypeId × Value → H} {W : World} {base : Nat} {v0 v1 v2 : Value} {d0 d1 d2 : DataW H} {p0 p1 p2 : List MemPlace}
    (k0 : Value.okWide Try.prog W .any base 77 v0) (h0 : DataW.Trod enc Try.prog W 0 (fun _ => true) true 77 v0 d0 p0)
    (k1 : Value.okWide Try.prog W .any base 77 v1) (h1 : DataW.Trod enc Try.prog W 0 (fun _ => true) true 77 v1 d1 p1)
    (k2 : Value.okWide Try.prog W .any base 5 v2) (h2 : DataW.Trod enc Try.prog W 0 (fun _ => true) true 5 v2 d2 p2)
    : Calls Try.prog 13 #[v0, v1, v2] W fun e W' => e = .returned (.bool true) ∧ Below W.heap.size W W' := by
  obtain ⟨a, ha, rfl⟩ := open_bytes_arr Try.underlying77 Try.underlying5 (by kernel_rfl) (by kernel_rfl) k0 h0
  obtain ⟨b, hb, rfl⟩ := open_bytes_arr Try.underlying77 Try.underlying5 (by kernel_rfl) (by kernel_rfl) k1 h1
  obtain ⟨n, rfl, -, -, wn⟩ := open_int Try.underlying5 k2 h2
  match a, ha, b, hb with
  | [x, y], _, [z, u], _ => exact diskOrder_core x y z u n (wf_u8 wn)
end Go.Proofs.Ythbaogjamenndaa
