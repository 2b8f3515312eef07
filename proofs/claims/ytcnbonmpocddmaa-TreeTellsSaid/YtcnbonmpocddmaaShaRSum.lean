/- The walk over codexref02.Sum. -/
import Derived.Test.YtcnbonmpocddmaaShaSum
namespace Go.Proofs.Ytcnbonmpocddmaa
set_option linter.unusedSimpArgs false
set_option linter.unusedVariables false
open Go.RowKit
attribute [-go_sem] Builtin.append_

theorem w85_info' {l : List W32} (h : l.length = 8) : (Try.prog.info? 68).map (·.size) = some (wvs l).toArray.size := w85_info h
set_option maxHeartbeats 4000000 in
set_option maxRecDepth 100000 in
theorem rsum_any {l : List UInt8} {A : Option Addr} {B c : Nat} (hl : l.length ≤ 1099511627776) (w : World) (hB : B ≤ w.heap.size) (hs : Sl w B 1 A l.length (bvs l)) :
    Calls Try.prog 29 #[.slice A l.length c] w (Ret w (.agg (bvs (sha l)).toArray)) := by
  obtain ⟨n8, hn8⟩ : ∃ n : Nat, 8 * l.length = n := ⟨_, rfl⟩
  have w8 : (l.length : Int) * 8 = (n8 : Int) := by omega
  have w80 : IntKind.u64.wrap (l.length : Int) = (l.length : Int) := by rw [IntKind.wrap_u64]; omega
  have w81 : IntKind.u64.wrap (n8 : Int) = (n8 : Int) := by rw [IntKind.wrap_u64]; omega
  go_enter Try.func29, Try.ntmps29
  obtain ⟨z32, hz⟩ : ∃ z, zs 32 = z := ⟨_, rfl⟩
  have hzl : z32.length = 32 := by rw [← hz]; rfl
  have hzZ := d32Z
  rw [hz] at hzZ
  go_upto_region 1 with (first
    | (refine wpList_new rfl hzZ rfl ?_)
    | fail)
  generalize hW0 : World.alloc w _ = W0
  have a00 : W0.heap[w.heap.size]? = some (.cells (bvs z32).toArray 40) := by rw [← hW0]; exact heap_alloc_new _ _
  have hwz : w.heap.size < W0.heap.size := by rw [← hW0]; simp
  have hB0 : Below w.heap.size w W0 := by rw [← hW0]; exact (Below.refl _ _).alloc (Nat.le_refl _) _
  clear hW0
  have hs0 := ((hs.mono hB).below hB0).mono (show w.heap.size ≤ W0.heap.size by omega)
  go_wp2_with (first
    | (at_builtin; refine wpList_app _ rfl (.tmp 12) (.tmp 13) 23 rfl Try.underlying23 elemU8 rfl (own_none' W0 (w.heap.size + 1) _ _ (by omega)) rfl (hs0.below ((Below.refl _ _).alloc (Nat.le_refl _) _)) (oneCell_bvs _) (by simp only [maxLen]; omega) (by omega) (by rw [World.size_alloc]; omega) ?_; intro A1 c1 w1 hown hg1 hb1 hat1; (simp only [Nat.zero_add, List.nil_append] at hown))
    | (at_builtin; refine wpList_app _ rfl (.tmp 14) (.tmp 15) 23 rfl Try.underlying23 elemU8 rfl (hown.alloc _) rfl (Sl.new (n := 1) (heap_alloc_new _ _) rfl) (by simp [Value.oneCell']) (by simp only [maxLen]; omega) (by omega) (by have := hb1.size; simp at this ⊢; omega) ?_; intro A2 c2 w2 hown2 hg2 hb2 hat2)
    | fail)
  have hb12 : Below (w.heap.size + 1) W0 w2 := ((((Below.refl _ W0).alloc (by omega) _)).trans hb1).trans ((((Below.refl _ w1).alloc (by have := hb1.size; simp at this; omega) _)).trans hb2)
  have a0 : w2.heap[w.heap.size]? = some (.cells (bvs z32).toArray 40) := bBlk hb12 (Nat.lt_succ_self _) a00
  have hB2 : Below w.heap.size w w2 := hB0.trans (hb12.mono (by simp))
  have hown3 : w2.ownsRow (w.heap.size + 1) 5 1 (.slice A2 (l.length + 1) c2) (l.length + 1 + 0) (bvs (padTo l 0)) := by
    have e : bvs (padTo l 0) = bvs l ++ [.int .u8 128] := by simp [padTo, zs, bvs_append]; rfl
    rw [e]
    exact hown2
  have hz2 : w.heap.size < w2.heap.size := (Array.getElem?_eq_some_iff.1 a0).1
  clear hown hown2 hg2 hb2 hat2 hb1 hb12 hs hat1 hg1
  go_loopw [3] (fun v wr => ∃ k : Nat, k ≤ padN l ∧ wr.ownsRow (w.heap.size + 1) 5 1 v (l.length + 1 + k) (bvs (padTo l k)) ∧ Below (w.heap.size + 1) w2 wr) (fun v _ => padN l + l.length + 1 - slN v)
  case atStart => exact ⟨0, by omega, hown3, Below.refl _ _⟩
  case round =>
    clear hown3
    obtain ⟨k, hk, hown, hb⟩ := hrel
    obtain ⟨A3, c3, rfl, hc3, hcm3⟩ := own_form hown
    have hzr := hb.size
    by_cases hlt : k < padN l
    · obtain ⟨n, hn⟩ : ∃ n, l.length + 1 + k = n := ⟨_, rfl⟩
      rw [hn] at hown hc3 ⊢
      have hpn : padN l < 64 := by unfold padN; omega
      have g1 : ((n : Int) % 64 != 56) = true := by unfold padN at hlt; simp; omega
      go_wp2_with (at_builtin; refine wpList_app _ rfl (.tmp 21) (.tmp 22) 23 rfl Try.underlying23 elemU8 rfl (hown.alloc _) rfl (Sl.new (n := 1) (heap_alloc_new _ _) rfl) (by simp [Value.oneCell']) (by simp only [maxLen]; omega) (by omega) (by simp; omega) ?_; intro A4 c4 w4 hown4 hg4 hb4 hat4)
      go_roundw
      case rel =>
        refine ⟨k + 1, by omega, ?_, hb.trans (((Below.refl _ wr).alloc (by omega) _).trans hb4)⟩
        rw [padTo_succ, bvs_append, show l.length + 1 + (k + 1) = n + 1 from by omega]
        exact hown4
      case measure => simp only [slN]; omega
    · obtain rfl : k = padN l := by omega
      have hpn : padN l < 64 := by unfold padN; omega
      obtain ⟨N, hN⟩ : ∃ n, l.length + 1 + padN l = n := ⟨_, rfl⟩
      have g1 : ((N : Int) % 64 != 56) = false := by
        have : (l.length + 1 + padN l) % 64 = 56 := by unfold padN; omega
        simp; omega
      rw [hN] at hown hc3 ⊢
      obtain ⟨PT, hPT⟩ : ∃ n, padTo l (padN l) = n := ⟨_, rfl⟩
      have HP : Hid (padded l = PT ++ lenTo l.length 8) := Lib.hid (by rw [padded_eq, hPT])
      have hPl : PT.length = N := by rw [← hPT, padTo_len, hN]
      rw [hPT] at hown
      have hown0 : wr.ownsRow (w.heap.size + 1) 5 1 (.slice A3 N c3) (N + 0) (bvs (PT ++ lenTo l.length 0)) := by
        have e : PT ++ lenTo l.length 0 = PT := by simp [lenTo]
        rw [e]; exact hown
      clear hPT hown
      go_wp2_with fail
      rename World => Wo
      go_loopw [3, 5] (fun v i wq => ∃ k : Nat, k ≤ 8 ∧ i = .int .i64 (56 - 8 * (k : Int)) ∧ wq.ownsRow (w.heap.size + 1) 5 1 v (N + k) (bvs (PT ++ lenTo l.length k)) ∧ Below (w.heap.size + 1) Wo wq) (fun _ i _ => (intOf i + 8).toNat)
      case atStart => exact ⟨0, by omega, rfl, hown0, Below.refl _ _⟩
      case round =>
        clear hown0
        obtain ⟨k, hk, rfl, hown, hbq⟩ := hrel
        obtain ⟨A5, c5, rfl, hc5, hcm5⟩ := own_form hown
        have hzq := hbq.size
        by_cases hlt : k < 8
        · obtain ⟨n, hn⟩ : ∃ n, N + k = n := ⟨_, rfl⟩
          rw [hn] at hown hc5 ⊢
          obtain ⟨m, hm, lm⟩ : ∃ m : Nat, 56 - 8 * k = m ∧ (m : Int) < 64 := ⟨_, rfl, by omega⟩
          have hmi : 56 - 8 * (k : Int) = (m : Int) := by omega
          rw [hmi]
          have g3 : (0 : Int) ≤ (m : Int) := by omega
          have wm : IntKind.u64.wrap (m : Int) = (m : Int) := by rw [IntKind.wrap_u64]; omega
          have wm8 : IntKind.i64.wrap ((m : Int) - 8) = (m : Int) - 8 := by rw [IntKind.wrap_i64]; omega
          go_wp2_with (at_builtin; refine wpList_app _ rfl (.tmp 32) (.tmp 38) 23 rfl Try.underlying23 elemU8 rfl (hown.alloc _) rfl (Sl.new (n := 1) (heap_alloc_new _ _) rfl) (by simp [Value.oneCell']) (by simp only [maxLen]; omega) (by omega) (by simp; omega) ?_; intro A4 c4 w4 hown4 hg4 hb4 hat4)
          go_roundw
          case rel =>
            refine ⟨k + 1, by omega, by rw [show (m : Int) - 8 = 56 - 8 * ((k + 1 : Nat) : Int) from by omega], ?_, hbq.trans (((Below.refl _ _).alloc (by omega) _).trans hb4)⟩
            rw [lenTo_succ, ← List.append_assoc, bvs_append, hn8, hm, u8_div, show N + (k + 1) = n + 1 from by omega]
            exact hown4
          case measure => simp [intOf]; omega
        · obtain rfl : k = 8 := by omega
          rw [show 56 - 8 * ((8 : Nat) : Int) = -8 from rfl]
          rw [← HP.out] at hown
          have hPl8 : (padded l).length = N + 8 := by rw [HP.out, List.length_append, hPl, lenTo_len]
          have hRV : Hid (sha l = digTo (shaTo (padded l) ((padded l).length / 64)).list 32) := Lib.hid rfl
          obtain ⟨PL, hPL⟩ : ∃ p, padded l = p := ⟨_, rfl⟩
          rw [hPL] at hown hPl8 hRV
          have hm64 : PL.length % 64 = 0 := by rw [← hPL]; exact (padded_len l).1
          have hB5 : Below w.heap.size w wr := hB2.trans ((hb.mono (by simp)).trans (hbq.mono (by simp)))
          have b0 := bBlk (hb.trans hbq) (Nat.lt_succ_self _) a0
          clear HP hPL hPl a0 hbq hb hzq
          obtain ⟨M, hM⟩ : ∃ m, PL.length = m := ⟨_, rfl⟩
          rw [← hPl8, hM] at hown hc5 ⊢
          rw [hM] at hPl8 hm64
          have htn := fun (s : St) (p : List UInt8) (hp : p.length = 64) (B c : Nat) A h1 h2 W h3 h4 => block_any s (p := p) hp (B := B) (c := c) (A := A) h1 h2 W h3 h4
          unfold wsv at htn
          have hs0 : s00.list.length = 8 := St.list_len _
          have hz8 : z8.length = 8 := rfl
          go_upto_region 10 with (first
            | (refine wpList_new rfl w85Z rfl ?_)
            | (refine wpList_store_row rfl 68 (.tmp 6) (.tmp 40) rfl _ (wvs s00.list).toArray rfl rfl _ (wvs z8).toArray (heap_alloc_new _ _) (w85_info hs0) (ws_sizes hz8 hs0) (all_oneCell_toArray (oneCell_wvs _)) ?_)
            | fail)
          generalize hX : World.setRow _ _ _ = X
          have b1 : X.heap[wr.heap.size]? = some (.cells (wvs s00.list).toArray 68) := by rw [← hX]; exact setRow_heap _ _ _ _ _ _ (heap_alloc_new _ _)
          have hbX : Below wr.heap.size wr X := by rw [← hX]; exact bSetRow ((Below.refl _ _).alloc (Nat.le_refl _) _) (Nat.le_refl _) _
          have hz6 : wr.heap.size < X.heap.size := (Array.getElem?_eq_some_iff.1 b1).1
          have hzw := hB5.size
          have hz0w : w.heap.size < wr.heap.size := (Array.getElem?_eq_some_iff.1 b0).1
          replace b0 := bBlk hbX hz0w b0
          have hB6 := hB5.trans (hbX.mono hzw)
          have hSl := Sl.of_own hown
          have hMp : 0 < M := by omega
          obtain ⟨r, ro, rfl, hrb, hrr⟩ := hSl.at_ hMp
          replace hrr := bRange hbX hrb hrr
          clear hX hbX hown hSl hB5
          have b1' : X.heap[wr.heap.size]? = some (.cells (wvs (shaTo PL 0).list).toArray 68) := b1
          obtain ⟨g, hg⟩ : ∃ g, wr.heap.size = g := ⟨_, rfl⟩
          rw [hg] at b1' hz6 hz0w hrb ⊢
          clear b1 hg
          go_wp2_with fail
          go_loopw [7] (fun v wr => ∃ i : Nat, v = .int .i64 (64 * (i : Int)) ∧ i ≤ M / 64 ∧ wr.heap[g]? = some (.cells (wvs (shaTo PL i).list).toArray 68) ∧ But X.heap.size (· = g) X wr) (fun v _ => M - (intOf v).toNat)
          case atStart => exact ⟨0, rfl, by omega, b1', But.refl _ _ _⟩
          case round =>
            clear b1'
            obtain ⟨i, rfl, hi, bg, hbt⟩ := hrel
            by_cases hlt : 64 * i < M
            · obtain ⟨q, hq⟩ : ∃ q, 64 * i = q := ⟨_, rfl⟩
              have hqc : 64 * (i : Int) = (q : Int) := by omega
              have g4 : (q : Int) < M := by omega
              rw [hqc]
              have wq64 : IntKind.i64.wrap ((q : Int) + 64) = (q : Int) + 64 := wrap_small _ (by omega) (by simp only [maxLen] at hcm5; omega)
              have HT : Hid (shaTo PL (i + 1) = comp (shaTo PL i) (chunkOf PL i)) := Lib.hid rfl
              have hol := shaTo_len PL i
              obtain ⟨SV, hSV⟩ : ∃ v, shaTo PL i = v := ⟨_, rfl⟩
              rw [hSV] at HT bg hol
              have hcl := chunkOf_len (p := PL) (i := i) (by omega)
              have hch : Sl wr X.heap.size 1 (some ⟨r, ro + q, none⟩) 64 (bvs (chunkOf PL i)) := by
                refine ⟨by rw [bvs_len, hcl], fun _ => ⟨r, ro + q, rfl, by omega, ?_⟩⟩
                rw [bvs_chunk, hq]
                exact range_cut (hbt.range (by omega) (by omega) hrr) _ _
              let S : World → Prop := fun _ => True
              have hS0 : S wr.drew := trivial
              go_upto_region 13 with (fail)
              refine wp_region_held (S := S) (by kernel_rfl) ?_
              change wpAnyH _ _ _ _ S _ _ _ wr.drew
              have hq1 : 0 ≤ (q : Int) + 64 ∧ (q : Int) + 64 ≤ c5 := by omega
              have hq2 : ((q : Int) + 64).toNat = q + 64 := by omega
              have hq3 : ¬ c5 = q := by omega
              refine wpAnyH_take (i := 1) (oi := ?oi_116) (v := ?v_116) ?ho_116 ?h1_116 ?h2_116 ?h3_116 ?hq_116 (Or.inl ⟨?hw_116, ?hy_116⟩) ?hs_116 ?rest_116; (case h2_116 => kernel_rfl); (case h3_116 => kernel_rfl); (case ho_116 => (simp only [List.getElem?_toArray, List.getElem?_cons_zero, List.getElem?_cons_succ]; rfl)); (case h1_116 => kernel_rfl); (case hq_116 => exact fun _ _ _ h => h); (case hw_116 => rfl); (case hy_116 => (intro w' hSw; (try simp only [S] at hSw); go_simp; (try with_reducible rfl))); (case hs_116 => assumption); (try simp only [Act.put, List.setIfInBounds_toArray, List.set_cons_zero, List.set_cons_succ])
              refine wpAnyH_take (i := 2) (oi := ?oi_117) (v := ?v_117) ?ho_117 ?h1_117 ?h2_117 ?h3_117 ?hq_117 (Or.inl ⟨?hw_117, ?hy_117⟩) ?hs_117 ?rest_117; (case h2_117 => kernel_rfl); (case h3_117 => kernel_rfl); (case ho_117 => (simp only [List.getElem?_toArray, List.getElem?_cons_zero, List.getElem?_cons_succ]; rfl)); (case h1_117 => kernel_rfl); (case hq_117 => exact fun _ _ _ h => h); (case hw_117 => rfl); (case hy_117 => (intro w' hSw; (try simp only [S] at hSw); go_simp; (try with_reducible rfl))); (case hs_117 => assumption); (try simp only [Act.put, List.setIfInBounds_toArray, List.set_cons_zero, List.set_cons_succ])
              refine wpAnyH_take (i := 3) (oi := ?oi_118) (v := ?v_118) ?ho_118 ?h1_118 ?h2_118 ?h3_118 ?hq_118 (Or.inl ⟨?hw_118, ?hy_118⟩) ?hs_118 ?rest_118; (case h2_118 => kernel_rfl); (case h3_118 => kernel_rfl); (case ho_118 => (simp only [List.getElem?_toArray, List.getElem?_cons_zero, List.getElem?_cons_succ]; rfl)); (case h1_118 => kernel_rfl); (case hq_118 => exact fun _ _ _ h => h); (case hw_118 => rfl); (case hy_118 => (intro w' hSw; (try simp only [S] at hSw); go_simp; (try with_reducible rfl))); (case hs_118 => assumption); (try simp only [Act.put, List.setIfInBounds_toArray, List.set_cons_zero, List.set_cons_succ])
              refine wpAnyH_take (i := 4) (oi := ?oi_119) (v := ?v_119) ?ho_119 ?h1_119 ?h2_119 ?h3_119 ?hq_119 (Or.inl ⟨?hw_119, ?hy_119⟩) ?hs_119 ?rest_119; (case h2_119 => kernel_rfl); (case h3_119 => kernel_rfl); (case ho_119 => (simp only [List.getElem?_toArray, List.getElem?_cons_zero, List.getElem?_cons_succ]; rfl)); (case h1_119 => kernel_rfl); (case hq_119 => exact fun _ _ _ h => h); (case hw_119 => rfl); (case hy_119 => (intro w' hSw; (try simp only [S] at hSw); go_simp; (try with_reducible rfl))); (case hs_119 => assumption); (try simp only [Act.put, List.setIfInBounds_toArray, List.set_cons_zero, List.set_cons_succ])
              refine wpAnyH_take (i := 5) (oi := ?oi_120) (v := ?v_120) ?ho_120 ?h1_120 ?h2_120 ?h3_120 ?hq_120 (Or.inl ⟨?hw_120, ?hy_120⟩) ?hs_120 ?rest_120; (case h2_120 => kernel_rfl); (case h3_120 => kernel_rfl); (case ho_120 => (simp only [List.getElem?_toArray, List.getElem?_cons_zero, List.getElem?_cons_succ]; rfl)); (case h1_120 => kernel_rfl); (case hq_120 => exact fun _ _ _ h => h); (case hw_120 => rfl); (case hy_120 => (intro w' hSw; go_simp; rfl)); (case hs_120 => assumption); (try simp only [Act.put, List.setIfInBounds_toArray, List.set_cons_zero, List.set_cons_succ])
              refine wpAnyH_ready (rs := [0]) (by kernel_rfl) (by simp) (AllReadyH.cons (o := ?oo0_121) ?hoo0_121 (fun K hK => ?steponly121) AllReadyH.nil); (case hoo0_121 => (simp only [List.getElem?_toArray, List.getElem?_cons_zero, List.getElem?_cons_succ]; rfl))
              refine step_load_row rfl 68 (.tmp 6) rfl g rfl _ (wvs SV.list).toArray (0, 0) _ (w := wr.drew) bg Try.underlying68 rfl (w85_info hol) ?_
              refine hK.out _ _ trivial (fun _ => ?_)
              clear hK K
              (try simp only [Act.put, List.setIfInBounds_toArray, List.set_cons_zero, List.set_cons_succ])
              refine wpAnyH_ready (rs := [6]) (by kernel_rfl) (by simp) (AllReadyH.cons (o := ?oo6_122) ?hoo6_122 (fun K hK => ?steponly122) AllReadyH.nil); (case hoo6_122 => (simp only [List.getElem?_toArray, List.getElem?_cons_zero, List.getElem?_cons_succ]; rfl))
              go_simp
              refine (htn SV (chunkOf PL i) hcl X.heap.size (c5 - q) (some ⟨r, ro + q, none⟩) (by omega) (by omega) wr.drew hbt.size hch.drew).mono ?_
              rintro e w7 ⟨rfl, hb7⟩
              have hb7' : Below wr.heap.size wr w7 := ⟨hb7.os, hb7.tape, hb7.output, hb7.size, hb7.block⟩
              have bg7 : w7.heap[g]? = some (.cells (wvs SV.list).toArray 68) := bBlk hb7' (Array.getElem?_eq_some_iff.1 bg).1 bg
              refine hK.out _ _ trivial (fun _ => ?_)
              clear hK K
              (try simp only [Act.put, List.setIfInBounds_toArray, List.set_cons_zero, List.set_cons_succ])
              refine wpAnyH_ready (rs := [7]) (by kernel_rfl) (by simp) (AllReadyH.cons (o := ?oo7_123) ?hoo7_123 (fun K hK => ?steponly123) AllReadyH.nil); (case hoo7_123 => (simp only [List.getElem?_toArray, List.getElem?_cons_zero, List.getElem?_cons_succ]; rfl))
              have hnl := St.list_len (comp SV (chunkOf PL i))
              refine step_store_row rfl 68 (.tmp 6) (.tmp 53) rfl g (wvs (comp SV (chunkOf PL i)).list).toArray rfl rfl _ (wvs SV.list).toArray bg7 (w85_info hnl) (ws_sizes hol hnl) (all_oneCell_toArray (oneCell_wvs _)) ?_
              refine hK.out _ _ trivial (fun _ => ?_)
              clear hK K
              (try simp only [Act.put, List.setIfInBounds_toArray, List.set_cons_zero, List.set_cons_succ])
              refine wpAnyH_done (by kernel_rfl) ?_ _
              generalize hY : World.setRow w7 g _ = Y
              have bgY : Y.heap[g]? = some (.cells (wvs (shaTo PL (i + 1)).list).toArray 68) := by rw [← hY, HT.out]; exact setRow_heap _ _ _ _ _ _ bg7
              have hbY : But X.heap.size (· = g) X Y := by rw [← hY]; exact (hbt.trans (but_of (hb7'.mono hbt.size))).row _
              clear hY
              go_wp2_with fail
              go_roundw
              case rel => exact ⟨i + 1, by congr 1; omega, by omega, bgY, hbY⟩
              case measure => simp [intOf]; omega
            · have hi2 : i = M / 64 := by omega
              have g4 : ¬ (64 * (i : Int)) < (M : Int) := by omega
              obtain ⟨v, hv⟩ : ∃ v, shaTo PL i = v := ⟨_, rfl⟩
              rw [hv] at bg
              have hRV2 : Hid (sha l = digTo v.list 32) := Lib.hid (by rw [hRV.out, hM, ← hi2, hv])
              obtain ⟨va, vb, vc, vd, ve, vf, vg, vh⟩ := v
              have d0 : wr.cell? ⟨g, 0, none⟩ = some (.int .u32 (va.toNat : Int)) := blk_cell bg rfl
              have d1 : wr.cell? ⟨g, 1, none⟩ = some (.int .u32 (vb.toNat : Int)) := blk_cell bg rfl
              have d2 : wr.cell? ⟨g, 2, none⟩ = some (.int .u32 (vc.toNat : Int)) := blk_cell bg rfl
              have d3 : wr.cell? ⟨g, 3, none⟩ = some (.int .u32 (vd.toNat : Int)) := blk_cell bg rfl
              have d4 : wr.cell? ⟨g, 4, none⟩ = some (.int .u32 (ve.toNat : Int)) := blk_cell bg rfl
              have d5 : wr.cell? ⟨g, 5, none⟩ = some (.int .u32 (vf.toNat : Int)) := blk_cell bg rfl
              have d6 : wr.cell? ⟨g, 6, none⟩ = some (.int .u32 (vg.toNat : Int)) := blk_cell bg rfl
              have d7 : wr.cell? ⟨g, 7, none⟩ = some (.int .u32 (vh.toNat : Int)) := blk_cell bg rfl
              replace b0 := hbt.blk (by omega) (by omega) b0
              have hB7 := hB6.trans (hbt.below (by omega) (fun j hj => by rw [hj]; omega))
              clear hRV hv hbt htn hrr hc5 bg
              go_upto_region 15 with (fail)
              obtain ⟨D, hD⟩ : ∃ d, (⟨va, vb, vc, vd, ve, vf, vg, vh⟩ : St).list = d := ⟨_, rfl⟩
              have hol : D.length = 8 := by rw [← hD]; rfl
              rw [hD] at hRV2
              obtain ⟨RV, hRv⟩ : ∃ r, sha l = r := ⟨_, rfl⟩
              rw [hRv] at hRV2
              generalize hV : World.alloc wr _ = V
              have b8 : V.heap[wr.heap.size]? = some (.cells (wvs D).toArray 59) := by rw [← hV, ← hD]; exact heap_alloc_new _ _
              have hbV : Below wr.heap.size wr V := by rw [← hV]; exact (Below.refl _ _).alloc (Nat.le_refl _) _
              replace b0 := bBlk hbV (Array.getElem?_eq_some_iff.1 b0).1 b0
              replace hB7 := hB7.trans (hbV.mono (by have := (Array.getElem?_eq_some_iff.1 b0).1; have := hB7.size; omega))
              clear hV hbV hD d0 d1 d2 d3 d4 d5 d6 d7
              obtain ⟨g8, hg8⟩ : ∃ g, wr.heap.size = g := ⟨_, rfl⟩
              rw [hg8] at b8 ⊢
              clear hg8
              go_upto_region 16 with (first
                | (refine wpList_new rfl hzZ rfl ?_)
                | fail)
              generalize hY : World.alloc V _ = Y
              have bO : Y.heap[V.heap.size]? = some (.cells (bvs (digZ D 0)).toArray 40) := by rw [← hY, digZ_none, hz]; exact heap_alloc_new _ _
              have hbY : Below V.heap.size V Y := by rw [← hY]; exact (Below.refl _ _).alloc (Nat.le_refl _) _
              have hzY : V.heap.size < Y.heap.size := (Array.getElem?_eq_some_iff.1 bO).1
              have hzg : w.heap.size < V.heap.size := (Array.getElem?_eq_some_iff.1 b0).1
              have hz8 : g8 < V.heap.size := (Array.getElem?_eq_some_iff.1 b8).1
              replace b8 := bBlk hbY (Array.getElem?_eq_some_iff.1 b8).1 b8
              replace b0 := bBlk hbY hzg b0
              replace hB7 := hB7.trans (hbY.mono (by omega))
              clear hY hbY
              obtain ⟨go, hgo⟩ : ∃ g, V.heap.size = g := ⟨_, rfl⟩
              rw [hgo] at bO hzY hzg hz8 ⊢
              clear hgo
              go_wp2_with fail
              go_loopw [10] (fun v wr => ∃ i : Nat, v = .int .i64 i ∧ i ≤ 8 ∧ wr.heap[go]? = some (.cells (bvs (digZ D (4 * i))).toArray 40) ∧ But Y.heap.size (· = go) Y wr) (fun v _ => 8 - (intOf v).toNat)
              case atStart => exact ⟨0, rfl, by omega, bO, But.refl _ _ _⟩
              case round =>
                clear bO
                obtain ⟨i, rfl, hi, bO, hbt⟩ := hrel
                by_cases hlt8 : i < 8
                · have g5 : (i : Int) < 8 := by omega
                  obtain ⟨x, hx⟩ : ∃ x, D[i]? = some x := ⟨_, List.getElem?_eq_getElem (by omega)⟩
                  go_wp2_with fail
                  go_loopw [11] (fun v wr => ∃ k : Nat, v = .int .i64 k ∧ k ≤ 4 ∧ wr.heap[go]? = some (.cells (bvs (digZ D (4 * i + k))).toArray 40) ∧ But Y.heap.size (· = go) Y wr) (fun v _ => 4 - (intOf v).toNat)
                  case atStart => exact ⟨0, rfl, by omega, bO, hbt⟩
                  case round =>
                    clear bO hbt
                    obtain ⟨k, rfl, hk, bO, hbt⟩ := hrel
                    by_cases hlt4 : k < 4
                    · have g6 : (k : Int) < 4 := by omega
                      obtain ⟨m, hm, lm⟩ : ∃ m : Nat, 4 * i + k = m ∧ (m : Int) < 32 := ⟨_, rfl, by omega⟩
                      have wm0 : IntKind.i64.wrap (4 * (i : Int)) = 4 * (i : Int) := wrap_small _ (by omega) (by omega)
                      have wm : IntKind.i64.wrap (4 * (i : Int) + (k : Int)) = (m : Int) := by rw [wrap_small _ (by omega) (by omega)]; omega
                      obtain ⟨sf, hsf, lsf⟩ : ∃ m : Nat, 24 - 8 * k = m ∧ (m : Int) < 32 := ⟨_, rfl, by omega⟩
                      have ws0 : IntKind.i64.wrap (8 * (k : Int)) = 8 * (k : Int) := wrap_small _ (by omega) (by omega)
                      have ws : IntKind.i64.wrap (24 - 8 * (k : Int)) = (sf : Int) := by rw [wrap_small _ (by omega) (by omega)]; omega
                      have wsu : IntKind.u64.wrap (sf : Int) = (sf : Int) := by rw [IntKind.wrap_u64]; omega
                      have c8 : wr.cell? ⟨g8, i, none⟩ = some (.int .u32 (x.toNat : Int)) := blk_cell (hbt.blk (by omega) (by omega) b8) (wvs_at hx)
                      have HV := Lib.hid (dByte_at hx hlt4 hm hsf)
                      have HS := Lib.hid (digZ_set D (j := m) (by omega))
                      have hml := digZ_len D (j := m) (by omega)
                      rw [hm] at bO
                      obtain ⟨ob, hob⟩ : ∃ b, (digZ D m)[m]? = some b := ⟨_, List.getElem?_eq_getElem (by omega)⟩
                      have c1 := blk_cell bO (bvs_at' hob)
                      have f1 := blk_frozen bO m
                      clear hx hob
                      go_wp2_with fail
                      rw [← HV.out]
                      exact ⟨⟨k + 1, by go_num, by omega, by rw [← Nat.add_assoc, hm, ← HS.out, ← bvs_set']; exact blk_set bO m _, hbt.setp m _⟩, by simp [intOf]; omega⟩
                    · obtain rfl : k = 4 := by omega
                      have g6 : ¬ ((4 : Nat) : Int) < 4 := by omega
                      go_wp2_with fail
                      go_roundw
                      case rel => exact ⟨i + 1, by go_num, by omega, bO, hbt⟩
                      case measure => simp [intOf]; omega
                · obtain rfl : i = 8 := by omega
                  have g5 : ¬ ((8 : Nat) : Int) < 8 := by omega
                  rw [show 4 * 8 = 32 from rfl, digZ_end, ← hRV2.out] at bO
                  have hRl : RV.length = 32 := by rw [← hRv, sha_len]
                  replace b0 := hbt.blk (by omega) (by omega) b0
                  have hB8 := hB7.trans (hbt.below (by omega) (fun j hj => by rw [hj]; omega))
                  clear hRV2
                  go_wp2_with (first
                    | (refine wpList_load_row rfl 40 (.tmp 9) rfl _ rfl _ (bvs RV).toArray (0, 0) _ bO Try.underlying40 rfl (d32_info hRl) ?_)
                    | (refine wpList_store_row rfl 40 (.tmp 2) (.tmp 94) rfl _ (bvs RV).toArray rfl rfl _ (bvs z32).toArray b0 (d32_info hRl) (by rw [List.size_toArray, List.size_toArray, bvs_len, bvs_len, hzl, hRl]) (all_oneCell_toArray (oneCell_bvs _)) ?_)
                    | fail)
                  generalize hX : World.setRow _ _ _ = X9
                  have b9 : X9.heap[w.heap.size]? = some (.cells (bvs RV).toArray 40) := by rw [← hX]; exact setRow_heap _ _ _ _ _ _ b0
                  have hBX : Below w.heap.size w X9 := by rw [← hX]; exact bSetRow hB8 (Nat.le_refl _) _
                  clear hX
                  have hld := run_loadVar_row (P := Try.prog) X9 _ _ 40 _ _ _ b9 Try.underlying40 rfl (d32_info hRl)
                  refine bodyPost_ret (by simp [results, Try.results29, Act.put, asAddr, Result.andThen, hld]; try rfl) rfl ?_
                  exact Ret.mk rfl hBX
end Go.Proofs.Ytcnbonmpocddmaa
