/- The walk over the reference's Root. (s7/lfrroot.py writes it.) -/
import Derived.Test.YthmjkgpfnpdddaaLfRoot
import Derived.Test.YthmjkgpfnpdddaaLfRSeal
import Derived.BigQuiet
namespace Go.Proofs.Ythmjkgpfnpdddaa
set_option linter.unusedSimpArgs false
set_option linter.unusedVariables false
open Go.RowKit Go.ChangeShapes Go.WideShapes Go.Sort

theorem mem_take_of {l : List Int} {i k : Nat} {x : Int} (h : l[i]? = some x) (hi : i < k) : x ∈ l.take k := List.mem_of_getElem? (i := i) (by rw [List.getElem?_take, if_pos hi, h])
theorem not_mem_take {l : List Int} {k : Nat} {x : Int} (h : ∀ i : Nat, i < k → l[i]? ≠ some x) : ¬ x ∈ l.take k := by
  intro hm
  obtain ⟨i, hi, e⟩ := List.getElem_of_mem hm
  rw [List.length_take] at hi
  rw [List.getElem_take] at e
  exact h i (by omega) (by rw [List.getElem?_eq_getElem (by omega), e])
attribute [-go_sem] Builtin.append_
set_option maxHeartbeats 16000000 in
set_option maxRecDepth 100000 in
theorem rroot_any {A : Option Addr} {n c : Nat} {l : List Int} (w : World) (h : IvAt w w.heap.size A n c l) (hn6 : n ≤ 1000000) : Calls Try.prog 29 #[.slice A n c] w (Ret w (.tuple #[bkv (rtEnc l), .int .i64 (erE (goodR l))])) := by
  have HS := Lib.hid h
  have HN := Lib.hid h.len
  clear h
  unfold bkv
  go_enter Try.func29, Try.ntmps29
  obtain ⟨zb, hzb⟩ : ∃ q, (bvs zblk).toArray = q := ⟨_, rfl⟩
  have hbz := blkZ
  have hb0 := built_blk0
  have hzs : zb.size = 128 := by rw [← hzb, List.size_toArray, bvs_len, zblk_len]
  have hzi : (Try.prog.info? 40).map (·.size) = some zb.size := by rw [hzs]; exact bk_size
  have hz1 : (zb.all fun x => x.oneCell') = true := by rw [← hzb]; exact all_oneCell_toArray (oneCell_bvs _)
  rw [hzb] at hbz hb0
  have HZ := Lib.hid hzb
  clear hzb
  go_upto_region 1 with (first | (refine wpList_new rfl hbz rfl ?_) | fail)
  obtain ⟨V, hV⟩ : ∃ q, w.alloc (.cells zb 40) = q := ⟨_, rfl⟩
  have a2 : V.heap[w.heap.size]? = some (.cells zb 40) := by rw [← hV]; exact heap_alloc_new _ _
  have hB : Below w.heap.size w V := by rw [← hV]; exact (Below.refl _ _).alloc (Nat.le_refl _) _
  try rw [hV]
  clear hV
  have l2 := (Array.getElem?_eq_some_iff.1 a2).1
  have hl := HS.out.nxt hB
  by_cases hrng : n < 1
  · have hng : goodR l = false := len_not HN.out (.inl hrng)
    have HE := Lib.hid (And.intro hng hB)
    have q1 : (n : Int) < 1 := by omega
    clear hng hB hl
    go_wp2_with (first
      | (refine wpList_built rfl 40 #[] rfl (cs := zb) (by simp only [List.map_toArray, List.map_nil]; exact hb0) ?_)
      | (refine wpList_store_row rfl 40 (.tmp 2) (.tmp 15) rfl _ zb rfl rfl _ zb a2 hzi rfl hz1 ?_)
      | fail)
    generalize hX : World.setRow _ _ _ = X9
    have b9 : X9.heap[w.heap.size]? = some (.cells zb 40) := by rw [← hX]; exact setRow_heap _ _ _ _ _ _ a2
    have hBX : Below w.heap.size w X9 := by rw [← hX]; exact bSetRow HE.out.2 (Nat.le_refl _) _
    clear hX
    have hld := run_loadVar_row (P := Try.prog) X9 _ _ 40 _ _ _ b9 Try.underlying40 rfl hzi
    refine bodyPost_ret (by simp [results, Try.results29, Act.put, asAddr, Result.andThen, hld]; try rfl) rfl ?_
    exact Ret.mk (by rw [rtEnc, HE.out.1, if_neg Bool.false_ne_true, HZ.out]; rfl) hBX
  · by_cases hrng2 : 100 < n
    · have hng : goodR l = false := len_not HN.out (.inr hrng2)
      have HE := Lib.hid (And.intro hng hB)
      have q1 : ¬ (n : Int) < 1 := by omega
      have q2 : (100 : Int) < (n : Int) := by omega
      clear hng hB hl
      go_wp2_with (first
        | (refine wpList_built rfl 40 #[] rfl (cs := zb) (by simp only [List.map_toArray, List.map_nil]; exact hb0) ?_)
        | (refine wpList_store_row rfl 40 (.tmp 2) (.tmp 15) rfl _ zb rfl rfl _ zb a2 hzi rfl hz1 ?_)
        | fail)
      generalize hX : World.setRow _ _ _ = X9
      have b9 : X9.heap[w.heap.size]? = some (.cells zb 40) := by rw [← hX]; exact setRow_heap _ _ _ _ _ _ a2
      have hBX : Below w.heap.size w X9 := by rw [← hX]; exact bSetRow HE.out.2 (Nat.le_refl _) _
      clear hX
      have hld := run_loadVar_row (P := Try.prog) X9 _ _ 40 _ _ _ b9 Try.underlying40 rfl hzi
      refine bodyPost_ret (by simp [results, Try.results29, Act.put, asAddr, Result.andThen, hld]; try rfl) rfl ?_
      exact Ret.mk (by rw [rtEnc, HE.out.1, if_neg Bool.false_ne_true, HZ.out]; rfl) hBX
    · have q1 : ¬ (n : Int) < 1 := by omega
      have q2 : ¬ (100 : Int) < (n : Int) := by omega
      have hoc : (bvs [82, u8 (n : Int)]).toArray = #[Value.int .u8 82, .int .u8 (n : Int)] := by
        simp only [bvs, List.map_cons, List.map_nil, bv_u8]
        rw [Int.emod_eq_of_lt (by omega) (by omega)]
        rfl
      have H1 := Lib.hid (And.intro a2 (And.intro hB hl))
      clear a2 hB hl
      go_upto_region 4 with (fail)
      obtain ⟨W1, hW1⟩ : ∃ q, V.alloc (.cells (bvs [82, u8 (n : Int)]).toArray 5) = q := ⟨_, rfl⟩
      have b1 : W1.heap[V.heap.size]? = some (.cells (bvs [82, u8 (n : Int)]).toArray 5) := by rw [← hW1]; exact heap_alloc_new _ _
      have hbW1 : Below V.heap.size V W1 := by rw [← hW1]; exact (Below.refl _ _).alloc (Nat.le_refl _) _
      rw [hoc] at hW1
      try rw [hW1]
      have own0 := own_lit (W := W1) (base := V.heap.size) (n := 2) (cs := bvs [82, u8 (n : Int)]) (t := 5) (Nat.le_refl _) b1 (by rw [bvs_len]; rfl) (by simp [maxLen])
      clear hW1 b1 hoc
      go_wp2_with fail
      go_loopw [4, 5] (fun sb si wr => ∃ k : Nat, k ≤ n ∧ si = .int .i64 k ∧ wr.ownsRow V.heap.size 5 1 sb (2 + k) (bvs (rtTo n l k)) ∧ Below V.heap.size V wr ∧ okR l k) (fun _ i _ => n - (intOf i).toNat)
      case atStart => exact ⟨0, by omega, rfl, by rw [rtTo_zero]; exact own0, hbW1, okR_zero l⟩
      case round =>
        clear own0 hbW1
        obtain ⟨k, hk, rfl, hown, hbr, hokr⟩ := hrel
        obtain ⟨A4, c4, rfl, -⟩ := own_form hown
        by_cases hlt : k < n
        · obtain ⟨x, hx⟩ : ∃ x, l[k]? = some x := ⟨_, List.getElem?_eq_getElem (by rw [HN.out]; exact hlt)⟩
          obtain ⟨b, o, rfl, hbB, hxr⟩ := H1.out.2.2.entry hx
          have hzr := hbr.size
          have a2 := bBlk hbr l2 H1.out.1
          have hB := bNext H1.out.2.1 hbr
          have l3 := (Array.getElem?_eq_some_iff.1 a2).1
          replace hxr := (hbr.cell (p := ⟨b, o + k, none⟩) hbB).trans hxr
          have hi1 : (k : Int) < (n : Int) := by omega
          by_cases g1 : x < 2
          · have hng := not_goodR hx (.inl g1)
            have HE := Lib.hid (And.intro hng hB)
            clear hng hB hown hx
            go_wp2_with (first
              | (refine wpList_built rfl 40 #[] rfl (cs := zb) (by simp only [List.map_toArray, List.map_nil]; exact hb0) ?_)
              | (refine wpList_store_row rfl 40 (.tmp 2) (.tmp 38) rfl _ zb rfl rfl _ zb a2 hzi rfl hz1 ?_)
              | fail)
            generalize hX : World.setRow _ _ _ = X9
            have b9 : X9.heap[w.heap.size]? = some (.cells zb 40) := by rw [← hX]; exact setRow_heap _ _ _ _ _ _ a2
            have hBX : Below w.heap.size w X9 := by rw [← hX]; exact bSetRow HE.out.2 (Nat.le_refl _) _
            clear hX
            have hld := run_loadVar_row (P := Try.prog) X9 _ _ 40 _ _ _ b9 Try.underlying40 rfl hzi
            refine bodyPost_ret (by simp [results, Try.results29, Act.put, asAddr, Result.andThen, hld]; try rfl) rfl ?_
            exact Ret.mk (by rw [rtEnc, HE.out.1, if_neg Bool.false_ne_true, HZ.out]; rfl) hBX
          · by_cases g2 : 128 ≤ x
            · have hng := not_goodR hx (.inr (.inl g2))
              have HE := Lib.hid (And.intro hng hB)
              have g2' : (127 : Int) < x := by omega
              clear hng hB hown hx
              go_wp2_with (first
                | (refine wpList_built rfl 40 #[] rfl (cs := zb) (by simp only [List.map_toArray, List.map_nil]; exact hb0) ?_)
                | (refine wpList_store_row rfl 40 (.tmp 2) (.tmp 38) rfl _ zb rfl rfl _ zb a2 hzi rfl hz1 ?_)
                | fail)
              generalize hX : World.setRow _ _ _ = X9
              have b9 : X9.heap[w.heap.size]? = some (.cells zb 40) := by rw [← hX]; exact setRow_heap _ _ _ _ _ _ a2
              have hBX : Below w.heap.size w X9 := by rw [← hX]; exact bSetRow HE.out.2 (Nat.le_refl _) _
              clear hX
              have hld := run_loadVar_row (P := Try.prog) X9 _ _ 40 _ _ _ b9 Try.underlying40 rfl hzi
              refine bodyPost_ret (by simp [results, Try.results29, Act.put, asAddr, Result.andThen, hld]; try rfl) rfl ?_
              exact Ret.mk (by rw [rtEnc, HE.out.1, if_neg Bool.false_ne_true, HZ.out]; rfl) hBX
            · have g2' : ¬ (127 : Int) < x := by omega
              have HX := Lib.hid (And.intro hx (And.intro hokr (And.intro hbr (And.intro hown (And.intro hB a2)))))
              have hbW : b < wr.heap.size := by omega
              clear hx hokr hbr hown hB a2
              go_wp2_with fail
              rename World => wo
              go_loopw [6] (fun s6 wr => ∃ j : Nat, j ≤ k ∧ s6 = .int .i64 j ∧ Below wo.heap.size wo wr ∧ ∀ i : Nat, i < j → l[i]? ≠ some x) (fun i _ => k - (intOf i).toNat)
              case atStart => exact ⟨0, by omega, rfl, Below.refl _ _, fun i hi => absurd hi (by omega)⟩
              case round =>
                obtain ⟨j, hj, rfl, hbz, hne⟩ := hrel
                have hxz := (hbz.cell (p := ⟨b, o + k, none⟩) hbW).trans hxr
                have hzz := hbz.size
                by_cases hjk : j < k
                · obtain ⟨y, hy⟩ : ∃ y, l[j]? = some y := ⟨_, List.getElem?_eq_getElem (by rw [HN.out]; omega)⟩
                  obtain ⟨b', o', e', -, hyr⟩ := H1.out.2.2.entry hy
                  injection e' with e'
                  simp only [Addr.mk.injEq] at e'
                  obtain ⟨rfl, rfl, -⟩ := e'
                  replace hyr := (hbz.cell (p := ⟨b, o + j, none⟩) hbW).trans ((HX.out.2.2.1.cell (p := ⟨b, o + j, none⟩) hbB).trans hyr)
                  have hj1 : (j : Int) < (k : Int) := by omega
                  have hj2 : (j : Int) < (n : Int) := by omega
                  by_cases hxy : y = x
                  · subst hxy
                    have hng := not_goodR HX.out.1 (.inr (.inr (mem_take_of hy hjk)))
                    have HY := Lib.hid (And.intro hng hbz)
                    clear hng hbz hne hy
                    go_upto_region 12 with (fail)
                    go_quiet (fail)
                    obtain ⟨U, hU⟩ : ∃ q, wr.drewN nq = q := ⟨_, rfl⟩
                    have hbU : Below wr.heap.size wr U := by rw [← hU]; exact bDrewN (Below.refl _ _) nq
                    rw [hU]
                    have hb2 := bNext HY.out.2 hbU
                    have a2 := bBlk hb2 l3 HX.out.2.2.2.2.2
                    have HE := Lib.hid (And.intro HY.out.1 (bNext HX.out.2.2.2.2.1 hb2))
                    clear hU hbU hb2 hyr hxz hxr
                    go_wp2_with (first
                      | (refine wpList_built rfl 40 #[] rfl (cs := zb) (by simp only [List.map_toArray, List.map_nil]; exact hb0) ?_)
                      | (refine wpList_store_row rfl 40 (.tmp 2) (.tmp 53) rfl _ zb rfl rfl _ zb a2 hzi rfl hz1 ?_)
                      | fail)
                    generalize hX : World.setRow _ _ _ = X9
                    have b9 : X9.heap[w.heap.size]? = some (.cells zb 40) := by rw [← hX]; exact setRow_heap _ _ _ _ _ _ a2
                    have hBX : Below w.heap.size w X9 := by rw [← hX]; exact bSetRow HE.out.2 (Nat.le_refl _) _
                    clear hX
                    have hld := run_loadVar_row (P := Try.prog) X9 _ _ 40 _ _ _ b9 Try.underlying40 rfl hzi
                    refine bodyPost_ret (by simp [results, Try.results29, Act.put, asAddr, Result.andThen, hld]; try rfl) rfl ?_
                    exact Ret.mk (by rw [rtEnc, HE.out.1, if_neg Bool.false_ne_true, HZ.out]; rfl) hBX
                  · have HY := Lib.hid (And.intro hy (And.intro hbz (And.intro hne hxy)))
                    clear hbz hne hy
                    go_upto_region 12 with (fail)
                    go_quiet (fail)
                    obtain ⟨U, hU⟩ : ∃ q, wr.drewN nq = q := ⟨_, rfl⟩
                    have hbU : Below wr.heap.size wr U := by rw [← hU]; exact bDrewN (Below.refl _ _) nq
                    rw [hU]
                    have hb2 := Lib.hid (bNext HY.out.2.1 hbU)
                    clear hU hbU hyr hxz hxr
                    go_wp2_with fail
                    go_roundw
                    case rel => exact ⟨j + 1, by omega, by go_num, hb2.out, fun i hi => by
                      rcases Nat.lt_or_ge i j with h | h
                      · exact HY.out.2.2.1 i h
                      · obtain rfl : i = j := by omega
                        rw [HY.out.1]
                        intro e
                        injection e with e
                        exact HY.out.2.2.2 e⟩
                    case measure => simp [intOf]; omega
                · obtain rfl : j = k := by omega
                  have hj1 : ¬ (j : Int) < (j : Int) := by omega
                  obtain ⟨hx, hokr, hbr, hown, hB, -⟩ := HX.out
                  have hs := rtTo_succ (n := n) hx
                  have ho := okR_succ hokr hx (by omega) (by omega) (not_mem_take hne)
                  have hownz := own_below hown hbz
                  have hbrz := hbr.trans (hbz.mono hzr)
                  have hzz' : V.heap.size ≤ wr.heap.size := by omega
                  have HY := Lib.hid (And.intro hs (And.intro ho hbrz))
                  clear hx hokr hB HX hs ho hbr hown hbz hbrz hne hxr
                  have hxo : (bvs [u8 x]).toArray = #[Value.int .u8 x] := by
                    simp only [bvs, List.map_cons, List.map_nil, bv_u8]
                    rw [Int.emod_eq_of_lt (by omega) (by omega)]
                  have hsx : Sl (wr.alloc (.cells #[Value.int .u8 x] 5)) (wr.alloc (.cells #[Value.int .u8 x] 5)).heap.size 1 (some ⟨wr.heap.size, 0, none⟩) 1 (bvs [u8 x]) := by
                    have := Sl.new (sz := 1) (n := 1) (heap_alloc_new wr (.cells #[Value.int .u8 x] 5)) rfl
                    rw [← hxo] at this
                    rw [← hxo]
                    exact this
                  clear hxo
                  go_wp2_with (first
                    | (at_builtin; go_loud (refine wpList_app _ rfl (.tmp 54) (.tmp 60) 22 rfl (base := V.heap.size) Try.underlying22 elemC rfl (hownz.alloc _) rfl hsx (oneCell_bvs _) (by simp only [maxLen]; omega) (by omega) (by simp; omega) ?_; intro A41 c41 w41 hown4 hg4 hb4 hat4))
                    | fail)
                  go_roundw
                  case rel =>
                    refine ⟨j + 1, by omega, by go_num, ?_, (HY.out.2.2.alloc hzz' _).trans hb4, HY.out.2.1⟩
                    rw [HY.out.1, bvs_append, show 2 + (j + 1) = 2 + j + 1 by omega]
                    exact hown4
                  case measure => simp [intOf]; omega
        · obtain rfl : k = n := by omega
          have hi1 : ¬ (k : Int) < (k : Int) := by omega
          rw [rtTo_all HN.out] at hown
          have hgd : goodR l = true := goodR_iff.2 ⟨by rw [HN.out]; omega, by rw [HN.out]; exact hokr⟩
          have hbl : (rtB l).length = 2 + k := by rw [rtB_len, HN.out]
          obtain ⟨m, hm⟩ : ∃ m, 2 + k = m := ⟨_, rfl⟩
          have hm124 : m ≤ 124 := by omega
          rw [hm] at hown hbl
          rw [hm]
          have hsl := rblock_any (c := c4) wr (Sl.of_own hown) hbl hm124
          have a2 := bBlk hbr l2 H1.out.1
          have hB := bNext H1.out.2.1 hbr
          have l4 := (Array.getElem?_eq_some_iff.1 a2).1
          have e1 : rtEnc l = sealB (rtB l) := by unfold rtEnc; rw [hgd, if_pos rfl]
          have e2 : (sealB (rtB l)).length = 128 := sealB_len (by rw [hbl]; exact hm124)
          unfold bkv at hsl
          obtain ⟨P, hP⟩ : ∃ q, sealB (rtB l) = q := ⟨_, rfl⟩
          rw [hP] at hsl e1 e2
          have HE := Lib.hid (And.intro e1 (And.intro hB (And.intro a2 hgd)))
          have hpi := bk_info e2
          have hps : (bvs P).toArray.size = zb.size := by rw [List.size_toArray, bvs_len, e2, hzs]
          have hp1 := oneCell_bvs P
          clear hown hbr hbl hm hB a2 e1 hP hm124 hgd hokr
          go_upto_region 15 with (fail)
          go_wp2_with fail
          refine Calls.mono hsl ?_
          rintro e Z ⟨rfl, hbZ⟩
          clear hsl
          have a2 := bBlk hbZ l4 HE.out.2.2.1
          have hB := bNext HE.out.2.1 hbZ
          have HB := Lib.hid hB
          clear hB hbZ
          obtain ⟨cs, hcs⟩ : ∃ q, (bvs P).toArray = q := ⟨_, rfl⟩
          rw [hcs] at hpi hps
          have hp2 := all_oneCell_toArray hp1
          rw [hcs] at hp2
          rw [hcs]
          have HCS := Lib.hid hcs
          clear hcs hp1
          go_wp2_with (first
            | (refine wpList_store_row rfl 40 (.tmp 2) (.tmp 63) rfl _ cs rfl rfl _ zb a2 hpi hps.symm hp2 ?_)
            | fail)
          generalize hX : World.setRow _ _ _ = X9
          have b9 : X9.heap[w.heap.size]? = some (.cells cs 40) := by rw [← hX]; exact setRow_heap _ _ _ _ _ _ a2
          have hBX : Below w.heap.size w X9 := by rw [← hX]; exact bSetRow HB.out (Nat.le_refl _) _
          clear hX
          have hld := run_loadVar_row (P := Try.prog) X9 _ _ 40 _ _ _ b9 Try.underlying40 rfl hpi
          refine bodyPost_ret (by simp [results, Try.results29, Act.put, asAddr, Result.andThen, hld]; try rfl) rfl ?_
          exact Ret.mk (by rw [HE.out.1, HE.out.2.2.2, HCS.out]; rfl) hBX
end Go.Proofs.Ythmjkgpfnpdddaa
