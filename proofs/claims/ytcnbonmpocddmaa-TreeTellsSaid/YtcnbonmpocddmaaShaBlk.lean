/- The walk over (codexref02.state).block, and over sha.start. -/
import Derived.Test.YtcnbonmpocddmaaShaTurn
namespace Go.Proofs.Ytcnbonmpocddmaa
set_option linter.unusedSimpArgs false
set_option linter.unusedVariables false
open Go.RowKit

theorem But.row {n p : Nat} {w w' : World} (h : But n (· = p) w w') (cs : Array Value) : But n (· = p) w (w'.setRow p cs) :=
  ⟨by rw [setRow_os]; exact h.os, by rw [setRow_tape]; exact h.tape, by rw [setRow_output]; exact h.output, by rw [setRow_size]; exact h.size, fun k hk hx => (setRow_other _ _ _ _ hx).trans (h.block k hk hx)⟩
theorem heap_alloc_three (w : World) (o1 o2 o3 : Obj) : (((w.alloc o1).alloc o2).alloc o3).heap[w.heap.size + 1 + 1]? = some o3 := by
  have := heap_alloc_new ((w.alloc o1).alloc o2) o3
  rwa [World.size_alloc, World.size_alloc] at this
def startP : Array (Nat × Operand) := #[(0, .const (.int .u32 1779033703)), (1, .const (.int .u32 3144134277)), (2, .const (.int .u32 1013904242)), (3, .const (.int .u32 2773480762)), (4, .const (.int .u32 1359893119)), (5, .const (.int .u32 2600822924)), (6, .const (.int .u32 528734635)), (7, .const (.int .u32 1541459225))]
set_option maxRecDepth 100000 in
theorem start_any (w : World) : Calls Try.prog 31 #[] w (Ret w (wsv s00.list)) := by
  unfold wsv
  have hkl : s00.list.length = 8 := rfl
  go_enter Try.func31, Try.ntmps31
  go_wp2_with (first
    | (refine wpList_new rfl w8Z rfl ?_)
    | (refine wpList_store_row rfl 60 (.tmp 0) (.tmp 1) rfl _ (wvs s00.list).toArray rfl rfl _ (wvs z8).toArray (heap_alloc_new _ _) (w8_info rfl) rfl (all_oneCell_toArray (oneCell_wvs _)) ?_)
    | fail)
  generalize hX : World.setRow _ _ _ = X
  have bZX : X.heap[w.heap.size]? = some (.cells (wvs s00.list).toArray 60) := by rw [← hX]; exact setRow_heap _ _ _ _ _ _ (heap_alloc_new _ _)
  have hBX : Below w.heap.size w X := by rw [← hX]; exact bSetRow ((Below.refl _ _).alloc (Nat.le_refl _) _) (Nat.le_refl _) _
  clear hX
  have hld := run_loadVar_row (P := Try.prog) X _ _ 60 _ _ _ bZX Try.underlying60 rfl (w8_info rfl)
  refine bodyPost_ret (by simp [results, Try.results31, Act.put, asAddr, Result.andThen, hld]; try rfl) rfl ?_
  exact Ret.mk rfl hBX
theorem sum4 (a b c d : W32) : ((a.toNat : Int) + (b.toNat : Int) + (c.toNat : Int) + (d.toNat : Int)) % 4294967296 = ((d + b + c + a).toNat : Int) := by
  simp only [BitVec.toNat_add]; omega
theorem sum5 (a b c d e : W32) : ((a.toNat : Int) + (b.toNat : Int) + (c.toNat : Int) + (d.toNat : Int) + (e.toNat : Int)) % 4294967296 = ((a + b + c + d + e).toNat : Int) := by
  simp only [BitVec.toNat_add]; omega
theorem w85Z : ZeroIs Try.prog 68 (wvs z8).toArray := by unfold ZeroIs; kernel_rfl
theorem w85_size : (Try.prog.info? 68).map (·.size) = some 8 := by kernel_rfl
theorem w85_info {l : List W32} (h : l.length = 8) : (Try.prog.info? 68).map (·.size) = some (wvs l).toArray.size := by rw [List.size_toArray, wvs_len, h]; exact w85_size
theorem addTo_flip (s v : St) : (⟨s.a + v.a, s.b + v.b, s.c + v.c, s.d + v.d, s.e + v.e, s.f + v.f, s.g + v.g, s.h + v.h⟩ : St) = plus s v := by
  unfold plus
  rw [BitVec.add_comm s.a, BitVec.add_comm s.b, BitVec.add_comm s.c, BitVec.add_comm s.d, BitVec.add_comm s.e, BitVec.add_comm s.f, BitVec.add_comm s.g, BitVec.add_comm s.h]
theorem rt (x : W32) (n : Nat) (h0 : 1 ≤ n) (h1 : n ≤ 31) (w : World) : Calls Try.prog 39 #[.int .u32 (x.toNat : Int), .int .i64 (n : Int)] w (fun e w' => e = .returned (.int .u32 ((ror x n).toNat : Int)) ∧ w = w') := rturn_any x h0 h1 w
set_option maxHeartbeats 4000000 in
set_option maxRecDepth 100000 in
theorem block_any (s : St) {p : List UInt8} (hp : p.length = 64) {B c : Nat} {A : Option Addr} (hc : 64 ≤ c) (hcm : c ≤ maxLen) (w : World) (hB0 : B ≤ w.heap.size) (hs : Sl w B 1 A 64 (bvs p)) :
    Calls Try.prog 34 #[wsv s.list, .slice A 64 c] w (Ret w (wsv (comp s p).list)) := by
  have hk := fun W => rconsts_any W
  have hkl := kTab_len
  have hz8 : z8.length = 8 := rfl
  have HC : Hid ((comp s p) = plus s (rnds s (sch p 64) 64)) := Lib.hid rfl
  obtain ⟨RV, hRV⟩ : ∃ v, comp s p = v := ⟨_, rfl⟩
  rw [hRV] at HC ⊢
  obtain ⟨sa, sb, sc, sd, se, sf, sg, sh⟩ := s
  have hsl : (St.list ⟨sa, sb, sc, sd, se, sf, sg, sh⟩).length = 8 := rfl
  have HM : Hid ((wvs (St.list ⟨sa, sb, sc, sd, se, sf, sg, sh⟩)).toArray = #[.int .u32 (sa.toNat : Int), .int .u32 (sb.toNat : Int), .int .u32 (sc.toNat : Int), .int .u32 (sd.toNat : Int), .int .u32 (se.toNat : Int), .int .u32 (sf.toNat : Int), .int .u32 (sg.toNat : Int), .int .u32 (sh.toNat : Int)]) := Lib.hid rfl
  unfold wsv at *
  rw [HM.out]
  simp only [maxLen] at hcm
  go_enter Try.func34, Try.ntmps34
  go_wp2_with (first
    | (refine wpList_new rfl w85Z rfl ?_)
    | (refine wpList_new rfl w64Z rfl ?_)
    | fail)
  generalize hW : World.alloc (World.alloc (World.alloc w _) _) _ = W0
  have a0 : W0.heap[w.heap.size]? = some (.cells (wvs (St.list ⟨sa, sb, sc, sd, se, sf, sg, sh⟩)).toArray 68) := by rw [← hW, HM.out]; exact (Below.heap_alloc _ _ _ (by simp only [World.size_alloc]; omega)).trans (heap_alloc_fst _ _ _)
  have a1 : W0.heap[w.heap.size + 1]? = some (.cells (wvs z8).toArray 68) := by rw [← hW]; exact (Below.heap_alloc _ _ _ (by simp)).trans (heap_alloc_two _ _ _)
  have a2 : W0.heap[w.heap.size + 1 + 1]? = some (.cells (wvs (schZ p 0)).toArray 71) := by rw [← hW, schZ_none]; exact heap_alloc_three _ _ _ _
  have hB : Below w.heap.size w W0 := by rw [← hW]; exact (((Below.refl _ _).alloc (Nat.le_refl _) _).alloc (by simp) _).alloc (by simp only [World.size_alloc]; omega) _
  have hz0 : w.heap.size + 1 + 1 < W0.heap.size := (Array.getElem?_eq_some_iff.1 a2).1
  clear hW
  have hge : w.heap.size + 1 < w.heap.size + 1 + 1 := Nat.lt_succ_self _
  obtain ⟨g2, hg2⟩ : ∃ g, w.heap.size + 1 + 1 = g := ⟨_, rfl⟩
  rw [hg2] at a2 hz0 hge ⊢
  clear hg2
  go_loopw [6] (fun i wr => ∃ t : Nat, i = .int .i64 t ∧ t ≤ 64 ∧ wr.heap[g2]? = some (.cells (wvs (schZ p t)).toArray 71) ∧ But W0.heap.size (· = g2) W0 wr) (fun i _ => 64 - (intOf i).toNat)
  case atStart => exact ⟨0, rfl, by omega, a2, But.refl _ _ _⟩
  case round =>
    clear a2
    obtain ⟨t, rfl, ht, bX, hbt⟩ := hrel
    have hz1 : g2 < wr.heap.size := (Array.getElem?_eq_some_iff.1 bX).1
    have hB2 := hB.trans (hbt.below (by omega) (fun j hj => by rw [hj]; omega))
    by_cases hlt : t < 64
    · have g1 : (t : Int) < 64 := by omega
      by_cases h16 : t < 16
      · have gq : (t : Int) < 16 := by omega
        have hs1 := (hs.mono hB0).below hB2
        obtain ⟨b, o, rfl, hb, hr⟩ := hs1.at_ (by omega)
        have hsz := schP_len p hlt
        go_wp2_with fail
        rename World => Wo
        go_loopw [7] (fun j wq => ∃ k : Nat, j = .int .i64 k ∧ k ≤ 4 ∧ wq.heap[g2]? = some (.cells (wvs (schP p t k)).toArray 71) ∧ But Wo.heap.size (· = g2) Wo wq) (fun j _ => 4 - (intOf j).toNat)
        case atStart => exact ⟨0, rfl, by omega, by rw [schP_none p hlt]; exact bX, But.refl _ _ _⟩
        case round =>
          obtain ⟨k, rfl, hk4, gX, hbq⟩ := hrel
          by_cases hkl4 : k < 4
          · have g3 : (k : Int) < 4 := by omega
            obtain ⟨q, hq⟩ : ∃ q, p[4 * t + k]? = some q := ⟨_, List.getElem?_eq_getElem (by omega)⟩
            have hqc : Wo.cell? ⟨b, o + (4 * t + k), none⟩ = some (.int .u8 (q.toNat : Int)) := hr (4 * t + k) _ (by unfold bvs; rw [List.getElem?_map, hq]; rfl)
            have hqr : wr.cell? ⟨b, o + (4 * t + k), none⟩ = some (.int .u8 (q.toNat : Int)) := (World.cell?_of_block (a := ⟨b, o + (4 * t + k), none⟩) (hbq.block b (by omega) (by omega))).trans hqc
            obtain ⟨m, hm, lm⟩ : ∃ m : Nat, 4 * t + k = m ∧ (m : Int) < 64 := ⟨_, rfl, by omega⟩
            have wm0 : IntKind.i64.wrap (4 * (t : Int)) = 4 * (t : Int) := wrap_small _ (by omega) (by omega)
            have wm : IntKind.i64.wrap (4 * (t : Int) + (k : Int)) = (m : Int) := by rw [wrap_small _ (by omega) (by omega)]; omega
            rw [hm] at hqr
            have c1 := blk_cell gX (wvs_at (schP_at p t k))
            have f1 := blk_frozen gX t
            have HS := Lib.hid (schP_set p t k)
            have HQ := Lib.hid (show word p t (k + 1) = word p t k <<< 8 ||| BitVec.ofNat 32 q.toNat by rw [word, byteOf, hq]; rfl)
            obtain ⟨v, hv⟩ : ∃ v, word p t k = v := ⟨_, rfl⟩
            rw [hv] at HQ c1
            clear hv hqc hq hr hs
            go_wp2_with fail
            go_still_tail 15, (by kernel_rfl)
            change wpList _ _ _ _ _ (World.drew _)
            go_wp2
            have e : ((v.toNat : Int) * 256 + (q.toNat : Int)) % 4294967296 = ((word p t (k + 1)).toNat : Int) := by
              have e0 : ((v.toNat : Int) * 256 % 4294967296 + (q.toNat : Int) % 4294967296) % 4294967296 = ((word p t (k + 1)).toNat : Int) := by
                rw [HQ.out, show (256 : Int) = 2 ^ 8 from rfl, m_shl, m_of8, m_add, word_add]
              omega
            rw [e]
            exact ⟨⟨k + 1, by go_num, by omega, by rw [← HS.out, ← wvs_set]; exact blk_set (W := wr) gX t _, (hbq.setp t _).drew⟩, by simp [intOf]; omega⟩
          · obtain rfl : k = 4 := by omega
            have bX2 := gX
            rw [schP_all p h16] at bX2
            have hbt2 := hbt.trans (n := W0.heap.size) ⟨hbq.os, hbq.tape, hbq.output, hbq.size, fun i hi hx => hbq.block i (by have := hbt.size; omega) hx⟩
            clear hs hr
            go_wp2_with fail
            go_roundw
            case rel => exact ⟨t + 1, by go_num, by omega, bX2, hbt2⟩
            case measure => simp [intOf]; omega
      · have gq : ¬ (t : Int) < 16 := by omega
        have hsz := schZ_len p ht
        obtain ⟨n2, hn2, l2⟩ : ∃ n : Nat, t - 2 = n ∧ (n : Int) < 64 := ⟨_, rfl, by omega⟩
        have w2 : IntKind.i64.wrap ((t : Int) - 2) = (n2 : Int) := by rw [wrap_small _ (by omega) (by omega)]; omega
        obtain ⟨n7, hn7, l7⟩ : ∃ n : Nat, t - 7 = n ∧ (n : Int) < 64 := ⟨_, rfl, by omega⟩
        have w7 : IntKind.i64.wrap ((t : Int) - 7) = (n7 : Int) := by rw [wrap_small _ (by omega) (by omega)]; omega
        obtain ⟨n15, hn15, l15⟩ : ∃ n : Nat, t - 15 = n ∧ (n : Int) < 64 := ⟨_, rfl, by omega⟩
        have w15 : IntKind.i64.wrap ((t : Int) - 15) = (n15 : Int) := by rw [wrap_small _ (by omega) (by omega)]; omega
        obtain ⟨n16, hn16, l16⟩ : ∃ n : Nat, t - 16 = n ∧ (n : Int) < 64 := ⟨_, rfl, by omega⟩
        have w16 : IntKind.i64.wrap ((t : Int) - 16) = (n16 : Int) := by rw [wrap_small _ (by omega) (by omega)]; omega
        have c1 := blk_cell bX (wvs_at (schZ_at p (t := t) (i := n2) (by omega)))
        have c2 := blk_cell bX (wvs_at (schZ_at p (t := t) (i := n7) (by omega)))
        have c3 := blk_cell bX (wvs_at (schZ_at p (t := t) (i := n15) (by omega)))
        have c4 := blk_cell bX (wvs_at (schZ_at p (t := t) (i := n16) (by omega)))
        have c5 : wr.cell? ⟨g2, t, none⟩ = some (.int .u32 (((0 : W32).toNat : Nat) : Int)) := blk_cell bX (wvs_at (by rw [schZ_cons p hlt, List.getElem?_append_right (by rw [sch_len]; omega), sch_len, Nat.sub_self]; rfl))
        have f1 := blk_frozen bX t
        have HN : Hid (schNext p t (sch p t) = sig1 (wAt (sch p t) n2) + wAt (sch p t) n7 + sig0 (wAt (sch p t) n15) + wAt (sch p t) n16) := Lib.hid (by unfold schNext; rw [if_neg h16, hn2, hn7, hn15, hn16])
        have HS := Lib.hid (schZ_set p hlt)
        generalize wAt (sch p t) n2 = x2 at *
        generalize wAt (sch p t) n7 = x7 at *
        generalize wAt (sch p t) n15 = x15 at *
        generalize wAt (sch p t) n16 = x16 at *
        clear hs
        have r7 := fun W => rt x15 7 (by omega) (by omega) W
        have r18 := fun W => rt x15 18 (by omega) (by omega) W
        have r17 := fun W => rt x2 17 (by omega) (by omega) W
        have r19 := fun W => rt x2 19 (by omega) (by omega) W
        go_upto_region 10 with (fail)
        go_quiet (fail)
        go_upto_region 11 with (fail)
        generalize hV : World.drewN wr _ = V
        have bV : V.heap[g2]? = some (.cells (wvs (schZ p t)).toArray 71) := by rw [← hV]; exact bX
        replace hbt : But W0.heap.size (· = g2) W0 V := by rw [← hV]; exact ⟨hbt.os, hbt.tape, hbt.output, hbt.size, hbt.block⟩
        replace c1 : V.cell? ⟨g2, n2, none⟩ = some (.int .u32 (x2.toNat : Int)) := by rw [← hV]; exact c1
        replace c2 : V.cell? ⟨g2, n7, none⟩ = some (.int .u32 (x7.toNat : Int)) := by rw [← hV]; exact c2
        replace c3 : V.cell? ⟨g2, n15, none⟩ = some (.int .u32 (x15.toNat : Int)) := by rw [← hV]; exact c3
        replace c4 : V.cell? ⟨g2, n16, none⟩ = some (.int .u32 (x16.toNat : Int)) := by rw [← hV]; exact c4
        replace c5 : V.cell? ⟨g2, t, none⟩ = some (.int .u32 (((0 : W32).toNat : Nat) : Int)) := by rw [← hV]; exact c5
        replace f1 : V.frozen? ⟨g2, t, none⟩ = false := by rw [← hV]; exact f1
        clear hV
        go_still_tail 29, (by kernel_rfl)
        still_call (still_of (r7 _))
        repeat still_step
        still_call (still_of (r18 _))
        repeat still_step
        still_call (still_of (r17 _))
        repeat still_step
        still_call (still_of (r19 _))
        repeat still_step
        refine wpStill_nil ?_
        change wpList _ _ _ _ _ (World.drew _)
        go_wp2
        have e : ((x16.toNat : Int) + (x7.toNat : Int) + bits .xor .u32 (bits .xor .u32 ((ror x15 7).toNat : Int) ((ror x15 18).toNat : Int)) ((x15.toNat : Int) / 8) + bits .xor .u32 (bits .xor .u32 ((ror x2 17).toNat : Int) ((ror x2 19).toNat : Int)) ((x2.toNat : Int) / 1024)) % 4294967296 = ((schNext p t (sch p t)).toNat : Int) := by
          rw [HN.out, show (1024 : Int) = 2 ^ 10 from rfl, show (8 : Int) = 2 ^ 3 from rfl, w_shr, w_shr, w_xor, w_xor, w_xor, w_xor]
          exact sum4 x16 x7 (sig0 x15) (sig1 x2)
        rw [e]
        exact ⟨⟨t + 1, by go_num, by omega, by rw [← HS.out, ← wvs_set]; exact blk_set (W := V) bV t _, (hbt.setp t _).drew⟩, by simp [intOf]; omega⟩
    · obtain rfl : t = 64 := by omega
      have g1 : ¬ ((64 : Nat) : Int) < 64 := by omega
      rw [schZ_all] at bX
      have hwl := sch_len p 64
      obtain ⟨WS, hWS⟩ : ∃ l, sch p 64 = l := ⟨_, rfl⟩
      rw [hWS] at hwl HC bX
      have b0 := hbt.blk (by omega) (by omega) a0
      have b1 := hbt.blk (by omega) (by omega) a1
      clear hWS hs hbt a0 a1
      obtain ⟨M, hM⟩ : ∃ l, (St.list ⟨sa, sb, sc, sd, se, sf, sg, sh⟩) = l := ⟨_, rfl⟩
      rw [hM] at b0 hsl
      go_wp2_with fail
      refine (hk _).mono ?_
      rintro e W1 ⟨rfl, hb1⟩
      have hz2 := hb1.size
      replace b0 := bBlk hb1 (by omega) b0
      replace b1 := bBlk hb1 (by omega) b1
      have b2 := bBlk hb1 hz1 bX
      have hB3 := hB2.trans (hb1.mono (by omega))
      clear hk hb1 bX hB2
      obtain ⟨KT, hKT⟩ : ∃ l, kTab = l := ⟨_, rfl⟩
      rw [hKT] at hkl ⊢
      go_upto_region 13 with (first
        | (refine wpList_new rfl w64Z rfl ?_)
        | (refine wpList_store_row rfl 71 (.tmp 10) (.tmp 79) rfl _ (wvs KT).toArray rfl rfl _ (wvs z64).toArray (heap_alloc_new _ _) (w64_info hkl) (ws_sizes rfl hkl) (all_oneCell_toArray (oneCell_wvs _)) ?_)
        | fail)
      generalize hX : World.setRow _ _ _ = X
      have b3 : X.heap[W1.heap.size]? = some (.cells (wvs KT).toArray 71) := by rw [← hX]; exact setRow_heap _ _ _ _ _ _ (heap_alloc_new _ _)
      have hbX : Below W1.heap.size W1 X := by rw [← hX]; exact bSetRow ((Below.refl _ _).alloc (Nat.le_refl _) _) (Nat.le_refl _) _
      have hz3 : W1.heap.size < X.heap.size := (Array.getElem?_eq_some_iff.1 b3).1
      replace b0 := bBlk hbX (by omega) b0
      replace b1 := bBlk hbX (by omega) b1
      replace b2 := bBlk hbX (by omega) b2
      replace hB3 := hB3.trans (hbX.mono (by omega))
      clear hX hbX
      go_upto_region 14 with (first
        | (refine wpList_new rfl w85Z rfl ?_)
        | (refine wpList_load_row rfl 68 (.tmp 2) rfl _ rfl _ (wvs M).toArray (0, 0) _ b0 Try.underlying68 rfl (w85_info hsl) ?_)
        | (refine wpList_store_row rfl 68 (.tmp 11) (.tmp 80) rfl _ (wvs M).toArray rfl rfl _ (wvs z8).toArray (heap_alloc_new _ _) (w85_info hsl) (ws_sizes hz8 hsl) (all_oneCell_toArray (oneCell_wvs _)) ?_)
        | fail)
      generalize hY : World.setRow _ _ _ = Y
      have b4 : Y.heap[X.heap.size]? = some (.cells (wvs M).toArray 68) := by rw [← hY]; exact setRow_heap _ _ _ _ _ _ (heap_alloc_new _ _)
      have hbY : Below X.heap.size X Y := by rw [← hY]; exact bSetRow ((Below.refl _ _).alloc (Nat.le_refl _) _) (Nat.le_refl _) _
      have hz4 : X.heap.size < Y.heap.size := (Array.getElem?_eq_some_iff.1 b4).1
      replace b0 := bBlk hbY (by omega) b0
      replace b1 := bBlk hbY (by omega) b1
      replace b2 := bBlk hbY (by omega) b2
      replace b3 := bBlk hbY (by omega) b3
      replace hB3 := hB3.trans (hbY.mono (by omega))
      clear hY hbY
      obtain ⟨g4, hg4⟩ : ∃ g, X.heap.size = g := ⟨_, rfl⟩
      obtain ⟨g3, hg3⟩ : ∃ g, W1.heap.size = g := ⟨_, rfl⟩
      rw [hg4] at b4 hz4 hz3 ⊢
      rw [hg3] at b3 hz2 hz3 ⊢
      clear hg4 hg3
      go_wp2_with fail
      have b4' : Y.heap[g4]? = some (.cells (wvs (rnds ⟨sa, sb, sc, sd, se, sf, sg, sh⟩ WS 0).list).toArray 68) := by show _ = some (Obj.cells (wvs (St.list ⟨sa, sb, sc, sd, se, sf, sg, sh⟩)).toArray _ (0, 0)); rw [hM]; exact b4
      clear b4
      go_loopw [12] (fun i wr => ∃ t : Nat, i = .int .i64 t ∧ t ≤ 64 ∧ wr.heap[g4]? = some (.cells (wvs (rnds ⟨sa, sb, sc, sd, se, sf, sg, sh⟩ WS t).list).toArray 68) ∧ But Y.heap.size (· = g4) Y wr) (fun i _ => 64 - (intOf i).toNat)
      case atStart => exact ⟨0, rfl, by omega, b4', But.refl _ _ _⟩
      case round =>
        clear b4'
        obtain ⟨t, rfl, ht, bV, hbt⟩ := hrel
        by_cases hlt : t < 64
        · have g1 : (t : Int) < 64 := by omega
          obtain ⟨ww, hww⟩ : ∃ x, WS[t]? = some x := ⟨_, List.getElem?_eq_getElem (by omega)⟩
          obtain ⟨kk, hkk⟩ : ∃ x, KT[t]? = some x := ⟨_, List.getElem?_eq_getElem (by omega)⟩
          have HR : Hid (rnds ⟨sa, sb, sc, sd, se, sf, sg, sh⟩ WS (t + 1) = rnd (rnds ⟨sa, sb, sc, sd, se, sf, sg, sh⟩ WS t) kk ww) := Lib.hid (by rw [rnds, hKT]; unfold wAt; rw [hww, hkk]; rfl)
          obtain ⟨v, hv⟩ : ∃ v, rnds ⟨sa, sb, sc, sd, se, sf, sg, sh⟩ WS t = v := ⟨_, rfl⟩
          rw [hv] at HR bV
          obtain ⟨va, vb, vc, vd, ve, vf, vg, vh⟩ := v
          have kc := blk_cell (hbt.blk (by omega) (by omega) b3) (wvs_at hkk)
          have wc := blk_cell (hbt.blk (by omega) (by omega) b2) (wvs_at hww)
          have d0 : wr.cell? ⟨g4, 0, none⟩ = some (.int .u32 (va.toNat : Int)) := blk_cell bV rfl
          have d1 : wr.cell? ⟨g4, 1, none⟩ = some (.int .u32 (vb.toNat : Int)) := blk_cell bV rfl
          have d2 : wr.cell? ⟨g4, 2, none⟩ = some (.int .u32 (vc.toNat : Int)) := blk_cell bV rfl
          have d3 : wr.cell? ⟨g4, 3, none⟩ = some (.int .u32 (vd.toNat : Int)) := blk_cell bV rfl
          have d4 : wr.cell? ⟨g4, 4, none⟩ = some (.int .u32 (ve.toNat : Int)) := blk_cell bV rfl
          have d5 : wr.cell? ⟨g4, 5, none⟩ = some (.int .u32 (vf.toNat : Int)) := blk_cell bV rfl
          have d6 : wr.cell? ⟨g4, 6, none⟩ = some (.int .u32 (vg.toNat : Int)) := blk_cell bV rfl
          have d7 : wr.cell? ⟨g4, 7, none⟩ = some (.int .u32 (vh.toNat : Int)) := blk_cell bV rfl
          clear hv hww hkk
          obtain ⟨OV, hOV⟩ : ∃ l, (⟨va, vb, vc, vd, ve, vf, vg, vh⟩ : St).list = l := ⟨_, rfl⟩
          have hol : OV.length = 8 := by rw [← hOV]; rfl
          rw [hOV] at bV
          clear hOV
          have q6 := fun W => rt ve 6 (by omega) (by omega) W
          have q11 := fun W => rt ve 11 (by omega) (by omega) W
          have q25 := fun W => rt ve 25 (by omega) (by omega) W
          have q2 := fun W => rt va 2 (by omega) (by omega) W
          have q13 := fun W => rt va 13 (by omega) (by omega) W
          have q22 := fun W => rt va 22 (by omega) (by omega) W
          clear b0 b1 b2 b3 HM HC
          go_upto_region 19 with (fail)
          simp only [hnot, w_not, w_and, w_or]
          rw [cho_or, most_or]
          refine wp_region_quiet_lit (by kernel_rfl) (by kernel_rfl) ?_
          iterate 4 (quiet_step (fail))
          quiet_step ((go_at_call 39; exact q_same (q6 _)))
          iterate 2 (quiet_step (fail))
          quiet_step ((go_at_call 39; exact q_same (q11 _)))
          iterate 3 (quiet_step (fail))
          quiet_step ((go_at_call 39; exact q_same (q25 _)))
          iterate 13 (quiet_step (fail))
          refine wpQuiet_nil ?_
          intro _ hw'
          obtain ⟨nq, hw''⟩ := hw'
          subst hw''
          go_upto_region 20 with (fail)
          generalize hV : World.drewN wr _ = V
          replace bV : V.heap[g4]? = some (.cells (wvs OV).toArray 68) := by rw [← hV]; exact bV
          replace hbt : But Y.heap.size (· = g4) Y V := by rw [← hV]; exact ⟨hbt.os, hbt.tape, hbt.output, hbt.size, hbt.block⟩
          replace d0 : V.cell? ⟨g4, 0, none⟩ = some (.int .u32 (va.toNat : Int)) := by rw [← hV]; exact d0
          replace d1 : V.cell? ⟨g4, 1, none⟩ = some (.int .u32 (vb.toNat : Int)) := by rw [← hV]; exact d1
          replace d2 : V.cell? ⟨g4, 2, none⟩ = some (.int .u32 (vc.toNat : Int)) := by rw [← hV]; exact d2
          replace d3 : V.cell? ⟨g4, 3, none⟩ = some (.int .u32 (vd.toNat : Int)) := by rw [← hV]; exact d3
          replace d4 : V.cell? ⟨g4, 4, none⟩ = some (.int .u32 (ve.toNat : Int)) := by rw [← hV]; exact d4
          replace d5 : V.cell? ⟨g4, 5, none⟩ = some (.int .u32 (vf.toNat : Int)) := by rw [← hV]; exact d5
          replace d6 : V.cell? ⟨g4, 6, none⟩ = some (.int .u32 (vg.toNat : Int)) := by rw [← hV]; exact d6
          clear hV d7 kc wc
          simp only [w_add, w_xor]
          have e1 : vh + (ror ve 6 ^^^ ror ve 11 ^^^ ror ve 25) + cho ve vf vg + kk + ww = rx ⟨va, vb, vc, vd, ve, vf, vg, vh⟩ kk ww := rfl
          rw [e1]
          obtain ⟨x1, hx1⟩ : ∃ x, rx ⟨va, vb, vc, vd, ve, vf, vg, vh⟩ kk ww = x := ⟨_, rfl⟩
          rw [hx1]
          clear e1
          refine wp_region_quiet_lit (by kernel_rfl) (by kernel_rfl) ?_
          iterate 2 (quiet_step (fail))
          quiet_step ((go_at_call 39; exact q_same (q2 _)))
          iterate 2 (quiet_step (fail))
          quiet_step ((go_at_call 39; exact q_same (q13 _)))
          iterate 3 (quiet_step (fail))
          quiet_step ((go_at_call 39; exact q_same (q22 _)))
          iterate 4 (quiet_step (fail))
          refine wpQuiet_nil ?_
          intro _ hw'
          obtain ⟨nq, hw''⟩ := hw'
          subst hw''
          go_upto_region 21 with (fail)
          generalize hU : World.drewN V _ = U
          replace bV : U.heap[g4]? = some (.cells (wvs OV).toArray 68) := by rw [← hU]; exact bV
          replace hbt : But Y.heap.size (· = g4) Y U := by rw [← hU]; exact ⟨hbt.os, hbt.tape, hbt.output, hbt.size, hbt.block⟩
          replace d0 : U.cell? ⟨g4, 0, none⟩ = some (.int .u32 (va.toNat : Int)) := by rw [← hU]; exact d0
          replace d1 : U.cell? ⟨g4, 1, none⟩ = some (.int .u32 (vb.toNat : Int)) := by rw [← hU]; exact d1
          replace d2 : U.cell? ⟨g4, 2, none⟩ = some (.int .u32 (vc.toNat : Int)) := by rw [← hU]; exact d2
          replace d3 : U.cell? ⟨g4, 3, none⟩ = some (.int .u32 (vd.toNat : Int)) := by rw [← hU]; exact d3
          replace d4 : U.cell? ⟨g4, 4, none⟩ = some (.int .u32 (ve.toNat : Int)) := by rw [← hU]; exact d4
          replace d5 : U.cell? ⟨g4, 5, none⟩ = some (.int .u32 (vf.toNat : Int)) := by rw [← hU]; exact d5
          replace d6 : U.cell? ⟨g4, 6, none⟩ = some (.int .u32 (vg.toNat : Int)) := by rw [← hU]; exact d6
          clear hU
          simp only [w_add, w_xor]
          have e2 : (ror va 2 ^^^ ror va 13 ^^^ ror va 22) + most va vb vc = ry ⟨va, vb, vc, vd, ve, vf, vg, vh⟩ := rfl
          rw [e2]
          obtain ⟨y1, hy1⟩ : ∃ x, ry ⟨va, vb, vc, vd, ve, vf, vg, vh⟩ = x := ⟨_, rfl⟩
          rw [hy1]
          have m1 := m_add x1 y1
          have m2 := m_add vd x1
          have hrd : rnd ⟨va, vb, vc, vd, ve, vf, vg, vh⟩ kk ww = ⟨x1 + y1, va, vb, vc, vd + x1, ve, vf, vg⟩ := by unfold rnd; rw [hx1, hy1]
          rw [hrd] at HR
          clear hx1 hy1 hrd e2
          obtain ⟨n0, hn0⟩ : ∃ x, x1 + y1 = x := ⟨_, rfl⟩
          obtain ⟨n4, hn4⟩ : ∃ x, vd + x1 = x := ⟨_, rfl⟩
          rw [hn0] at HR m1
          rw [hn4] at HR m2
          clear hn0 hn4
          have hnl : (St.list ⟨n0, va, vb, vc, n4, ve, vf, vg⟩).length = 8 := rfl
          go_upto_region 16 with (first
            | (refine wpList_store_row rfl 68 (.tmp 11) (.tmp 170) rfl _ (wvs (St.list ⟨n0, va, vb, vc, n4, ve, vf, vg⟩)).toArray rfl rfl _ (wvs OV).toArray bV (w85_info hnl) (ws_sizes hol hnl) (all_oneCell_toArray (oneCell_wvs _)) ?_)
            | fail)
          generalize hXX : World.setRow _ _ _ = XX
          have bX : XX.heap[g4]? = some (.cells (wvs (St.list ⟨n0, va, vb, vc, n4, ve, vf, vg⟩)).toArray 68) := by rw [← hXX]; exact setRow_heap _ _ _ _ _ _ bV
          have hbX : But Y.heap.size (· = g4) Y XX := by rw [← hXX]; exact hbt.row _
          clear hXX
          go_wp2_with fail
          go_roundw
          case rel => exact ⟨t + 1, by go_num, by omega, by rw [HR.out]; exact bX, hbX⟩
          case measure => simp [intOf]; omega
        · obtain rfl : t = 64 := by omega
          have g1 : ¬ ((64 : Nat) : Int) < 64 := by omega
          obtain ⟨v, hv⟩ : ∃ v, rnds ⟨sa, sb, sc, sd, se, sf, sg, sh⟩ WS 64 = v := ⟨_, rfl⟩
          rw [hv] at HC bV
          obtain ⟨va, vb, vc, vd, ve, vf, vg, vh⟩ := v
          replace b0 := hbt.blk (by omega) (by omega) b0
          replace b1 := hbt.blk (by omega) (by omega) b1
          have hB4 := hB3.trans (hbt.below (by omega) (fun j hj => by rw [hj]; omega))
          rw [← hM] at b0
          have s0 : wr.cell? ⟨w.heap.size, 0, none⟩ = some (.int .u32 (sa.toNat : Int)) := blk_cell b0 rfl
          have s1 : wr.cell? ⟨w.heap.size, 1, none⟩ = some (.int .u32 (sb.toNat : Int)) := blk_cell b0 rfl
          have s2 : wr.cell? ⟨w.heap.size, 2, none⟩ = some (.int .u32 (sc.toNat : Int)) := blk_cell b0 rfl
          have s3 : wr.cell? ⟨w.heap.size, 3, none⟩ = some (.int .u32 (sd.toNat : Int)) := blk_cell b0 rfl
          have s4 : wr.cell? ⟨w.heap.size, 4, none⟩ = some (.int .u32 (se.toNat : Int)) := blk_cell b0 rfl
          have s5 : wr.cell? ⟨w.heap.size, 5, none⟩ = some (.int .u32 (sf.toNat : Int)) := blk_cell b0 rfl
          have s6 : wr.cell? ⟨w.heap.size, 6, none⟩ = some (.int .u32 (sg.toNat : Int)) := blk_cell b0 rfl
          have s7 : wr.cell? ⟨w.heap.size, 7, none⟩ = some (.int .u32 (sh.toNat : Int)) := blk_cell b0 rfl
          have d0 : wr.cell? ⟨g4, 0, none⟩ = some (.int .u32 (va.toNat : Int)) := blk_cell bV rfl
          have d1 : wr.cell? ⟨g4, 1, none⟩ = some (.int .u32 (vb.toNat : Int)) := blk_cell bV rfl
          have d2 : wr.cell? ⟨g4, 2, none⟩ = some (.int .u32 (vc.toNat : Int)) := blk_cell bV rfl
          have d3 : wr.cell? ⟨g4, 3, none⟩ = some (.int .u32 (vd.toNat : Int)) := blk_cell bV rfl
          have d4 : wr.cell? ⟨g4, 4, none⟩ = some (.int .u32 (ve.toNat : Int)) := blk_cell bV rfl
          have d5 : wr.cell? ⟨g4, 5, none⟩ = some (.int .u32 (vf.toNat : Int)) := blk_cell bV rfl
          have d6 : wr.cell? ⟨g4, 6, none⟩ = some (.int .u32 (vg.toNat : Int)) := blk_cell bV rfl
          have d7 : wr.cell? ⟨g4, 7, none⟩ = some (.int .u32 (vh.toNat : Int)) := blk_cell bV rfl
          obtain ⟨o0, m0⟩ : ∃ o, ((sa.toNat : Int) + (va.toNat : Int)) % 4294967296 = ((o : W32).toNat : Int) ∧ o = sa + va := ⟨_, m_add _ _, rfl⟩
          obtain ⟨o1, m1⟩ : ∃ o, ((sb.toNat : Int) + (vb.toNat : Int)) % 4294967296 = ((o : W32).toNat : Int) ∧ o = sb + vb := ⟨_, m_add _ _, rfl⟩
          obtain ⟨o2, m2⟩ : ∃ o, ((sc.toNat : Int) + (vc.toNat : Int)) % 4294967296 = ((o : W32).toNat : Int) ∧ o = sc + vc := ⟨_, m_add _ _, rfl⟩
          obtain ⟨o3, m3⟩ : ∃ o, ((sd.toNat : Int) + (vd.toNat : Int)) % 4294967296 = ((o : W32).toNat : Int) ∧ o = sd + vd := ⟨_, m_add _ _, rfl⟩
          obtain ⟨o4, m4⟩ : ∃ o, ((se.toNat : Int) + (ve.toNat : Int)) % 4294967296 = ((o : W32).toNat : Int) ∧ o = se + ve := ⟨_, m_add _ _, rfl⟩
          obtain ⟨o5, m5⟩ : ∃ o, ((sf.toNat : Int) + (vf.toNat : Int)) % 4294967296 = ((o : W32).toNat : Int) ∧ o = sf + vf := ⟨_, m_add _ _, rfl⟩
          obtain ⟨o6, m6⟩ : ∃ o, ((sg.toNat : Int) + (vg.toNat : Int)) % 4294967296 = ((o : W32).toNat : Int) ∧ o = sg + vg := ⟨_, m_add _ _, rfl⟩
          obtain ⟨o7, m7⟩ : ∃ o, ((sh.toNat : Int) + (vh.toNat : Int)) % 4294967296 = ((o : W32).toNat : Int) ∧ o = sh + vh := ⟨_, m_add _ _, rfl⟩
          have HO : Hid (RV = ⟨o0, o1, o2, o3, o4, o5, o6, o7⟩) := Lib.hid (by rw [HC.out, ← addTo_flip, m0.2, m1.2, m2.2, m3.2, m4.2, m5.2, m6.2, m7.2])
          obtain ⟨m0, -⟩ := m0
          obtain ⟨m1, -⟩ := m1
          obtain ⟨m2, -⟩ := m2
          obtain ⟨m3, -⟩ := m3
          obtain ⟨m4, -⟩ := m4
          obtain ⟨m5, -⟩ := m5
          obtain ⟨m6, -⟩ := m6
          obtain ⟨m7, -⟩ := m7
          have hrl : (St.list ⟨o0, o1, o2, o3, o4, o5, o6, o7⟩).length = 8 := rfl
          clear b0 bV b2 b3 HM HC hv hM hsl
          go_wp2_with (first
            | (refine wpList_store_row rfl 68 (.tmp 4) (.tmp 211) rfl _ (wvs (St.list ⟨o0, o1, o2, o3, o4, o5, o6, o7⟩)).toArray rfl rfl _ (wvs z8).toArray b1 (w85_info hrl) (ws_sizes hz8 hrl) (all_oneCell_toArray (oneCell_wvs _)) ?_)
            | fail)
          generalize hX : World.setRow _ _ _ = X9
          have b4 : X9.heap[w.heap.size + 1]? = some (.cells (wvs (St.list ⟨o0, o1, o2, o3, o4, o5, o6, o7⟩)).toArray 68) := by rw [← hX]; exact setRow_heap _ _ _ _ _ _ b1
          have hBX : Below w.heap.size w X9 := by rw [← hX]; exact bSetRow hB4 (Nat.le_succ _) _
          clear hX
          have hld := run_loadVar_row (P := Try.prog) X9 _ _ 68 _ _ _ b4 Try.underlying68 rfl (w85_info hrl)
          refine bodyPost_ret (by simp [results, Try.results34, Act.put, asAddr, Result.andThen, hld]; try rfl) rfl ?_
          exact Ret.mk (by rw [HO.out]) hBX
end Go.Proofs.Ytcnbonmpocddmaa
