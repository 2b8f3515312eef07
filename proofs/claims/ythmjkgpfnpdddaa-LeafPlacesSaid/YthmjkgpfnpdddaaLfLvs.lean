/- The walk over leaf.Leaves. -/
import Derived.Test.YthmjkgpfnpdddaaLfRoot
namespace Go.Proofs.Ythmjkgpfnpdddaa
set_option linter.unusedSimpArgs false
set_option linter.unusedVariables false
open Go.RowKit Go.ChangeShapes Go.WideShapes Go.Sort

theorem elemI : Elem Try.prog 3 1 8 := elem_of (z := .int .i64 0) (by kernel_rfl) (by simp [Value.cells]) (by omega)
/-- the places, as far as k -/
def lvTo (b : Blk) (k : Nat) : List Int := ((b.drop 2).take k).map (fun x => (x.toNat : Int))
theorem lvTo_zero (b : Blk) : lvTo b 0 = [] := by simp [lvTo]
theorem lvTo_succ {b : Blk} {k : Nat} (h : 2 + k < b.length) : lvTo b (k + 1) = lvTo b k ++ [((at8 b (2 + k)).toNat : Int)] := by
  unfold lvTo
  rw [List.take_succ_eq_append_getElem (by rw [List.length_drop]; omega), List.map_append, List.getElem_drop]
  simp [at8, List.getElem?_eq_getElem h]
theorem lvTo_all {b : Blk} {n : Nat} (h : lfN b = n) : lvTo b n = rtL b := by unfold lvTo rtL; rw [h]
theorem lvTo_len {b : Blk} {k : Nat} (h : 2 + k ≤ b.length) : (lvTo b k).length = k := by unfold lvTo; rw [List.length_map, List.length_take, List.length_drop]; omega
theorem lvTo_wide (b : Blk) (k : Nat) : ∀ x ∈ lvTo b k, -9223372036854775808 ≤ x ∧ x ≤ 9223372036854775807 := by
  intro x hx
  obtain ⟨y, -, rfl⟩ := List.mem_map.1 hx
  have := y.toNat_lt
  omega
theorem one_ivs (l : List Int) : ∀ u ∈ ivs l, u.oneCell' = true := by
  intro u hu
  obtain ⟨x, -, rfl⟩ := List.mem_map.1 hu
  rfl
theorem ivs_append (a b : List Int) : ivs (a ++ b) = ivs a ++ ivs b := by simp [ivs]
def LLvs (w : World) (b : Blk) (e : Ending) (w' : World) : Prop := ∃ A n c, e = .returned (.tuple #[.slice A n c, .int .i64 (erE (isRt b))]) ∧ IvAt w' w'.heap.size A n c (rtDec b) ∧ Below w.heap.size w w'
theorem ivAt_none (w : World) (B : Nat) : IvAt w B none 0 0 [] := ⟨by simp, rfl, ⟨rfl, fun h => absurd h (by omega)⟩, by omega⟩
attribute [-go_sem] Builtin.append_
set_option maxHeartbeats 4000000 in
set_option maxRecDepth 100000 in
theorem lleaves_any {b : Blk} (hb : b.length = 128) (w : World) : Calls Try.prog 30 #[bkv b] w (LLvs w b) := by
  unfold bkv
  obtain ⟨cb, hcb⟩ : ∃ q, (bvs b).toArray = q := ⟨_, rfl⟩
  have HC := Lib.hid hcb
  rw [hcb]
  clear hcb
  go_enter Try.func30, Try.ntmps30
  go_upto_region 1 with (fail)
  obtain ⟨V, hV⟩ : ∃ q, w.alloc (.cells cb 40) = q := ⟨_, rfl⟩
  have a1 : V.heap[w.heap.size]? = some (.cells cb 40) := by rw [← hV]; exact heap_alloc_new _ _
  have hB : Below w.heap.size w V := by rw [← hV]; exact (Below.refl _ _).alloc (Nat.le_refl _) _
  have l1 := (Array.getElem?_eq_some_iff.1 a1).1
  rw [hV]
  clear hV
  have rb : V.rangeAt w.heap.size 0 (bvs b) := range_blk (by rw [HC.out]; exact a1)
  have hcell : ∀ i : Nat, i < 128 → V.cell? ⟨w.heap.size, i, none⟩ = some (.int .u8 ((at8 b i).toNat : Int)) := fun i hi => by
    have := rb i (.int .u8 ((at8 b i).toNat : Int)) (by simp [bvs, bv, at8, List.getElem?_eq_getElem (show i < b.length by omega)])
    simpa using this
  have c1 := hcell 1 (by omega)
  have hlt := (at8 b 1).toNat_lt
  obtain ⟨n, hn⟩ : ∃ n, (at8 b 1).toNat = n := ⟨_, rfl⟩
  have hN : lfN b = n := hn
  rw [hn] at c1 hlt
  have e1 : IntKind.i64.wrap (n : Int) = n := wrap_small _ (by omega) (by omega)
  have HN := Lib.hid hN
  clear hN hn rb
  by_cases h3 : n ≤ 100
  · have h3' : ¬ (100 : Int) < (n : Int) := by omega
    have e3 : IntKind.i64.wrap (2 + (n : Int)) = ((2 + n : Nat) : Int) := by rw [wrap_small _ (by omega) (by omega)]; omega
    have HB := Lib.hid (And.intro hB (And.intro hcell a1))
    have s1 : (2 : Int) ≤ 2 + (n : Int) := by omega
    have s0 : (0 : Int) ≤ 2 + (n : Int) := by omega
    have s2 : 2 + (n : Int) ≤ 128 := by omega
    have hcs : cb.size = 128 := by rw [← HC.out, List.size_toArray, bvs_len, hb]
    clear hB hcell a1
    go_upto_region 5 with (fail)
    go_wp2_with fail
    go_loopw [5, 19] (fun sb si wr => ∃ k : Nat, k ≤ n ∧ si = .int .i64 k ∧ wr.ownsRow V.heap.size 3 1 sb k (ivs (lvTo b k)) ∧ Below V.heap.size V wr) (fun _ i _ => n - (intOf i).toNat)
    case atStart => exact ⟨0, by omega, rfl, by rw [lvTo_zero]; exact World.ownsRow_nil _ _ _ _, Below.refl _ _⟩
    case round =>
      obtain ⟨k, hk, rfl, hown, hbr⟩ := hrel
      obtain ⟨A4, c4, rfl, hc4⟩ := own_form hown
      by_cases hltk : k < n
      · have ck := HB.out.2.1 (2 + k) (by omega)
        have hyl := (at8 b (2 + k)).toNat_lt
        have hs := lvTo_succ (b := b) (k := k) (by omega)
        obtain ⟨y, hy⟩ : ∃ y, (at8 b (2 + k)).toNat = y := ⟨_, rfl⟩
        rw [hy] at ck hyl hs
        replace ck := (hbr.cell (p := ⟨w.heap.size, 2 + k, none⟩) l1).trans ck
        have hzr := hbr.size
        have ey : IntKind.i64.wrap (y : Int) = y := wrap_small _ (by omega) (by omega)
        have hi1 : (k : Int) < (n : Int) := by omega
        have HY := Lib.hid (And.intro hs hbr)
        have hsx : Sl (wr.alloc (.cells #[Value.int .i64 y] 3)) (wr.alloc (.cells #[Value.int .i64 y] 3)).heap.size 1 (some ⟨wr.heap.size, 0, none⟩) 1 (ivs [(y : Int)]) :=
          Sl.new (sz := 1) (n := 1) (heap_alloc_new wr (.cells #[Value.int .i64 y] 3)) rfl
        clear hs hbr hy
        go_wp2_with (first
          | (at_builtin; go_loud (refine wpList_app _ rfl (.tmp 23) (.tmp 26) 50 rfl (base := V.heap.size) Try.underlying50 elemI rfl (hown.alloc _) rfl hsx (one_ivs _) (by simp only [maxLen]; omega) (by omega) (by simp; omega) ?_; intro A41 c41 w41 hown4 hg4 hb4 hat4))
          | fail)
        refine ⟨⟨k + 1, by omega, by go_num, ?_, (HY.out.2.alloc hzr _).trans hb4⟩, by simp [intOf]; omega⟩
        rw [HY.out.1, ivs_append]
        exact hown4
      · obtain rfl : k = n := by omega
        have hi1 : ¬ (k : Int) < (k : Int) := by omega
        rw [lvTo_all HN.out] at hown
        have hwd := lvTo_wide b k
        have hll := lvTo_len (b := b) (k := k) (by omega)
        rw [lvTo_all HN.out] at hwd hll
        have hat : IvAt wr wr.heap.size A4 k c4 (rtL b) := ⟨hwd, hll, Sl.of_own hown, hc4.1⟩
        have henc := root_any wr hat (by omega)
        unfold bkv at henc
        have hBY := bNext HB.out.1 hbr
        have a1Y := bBlk hbr l1 HB.out.2.2
        have HY := Lib.hid (And.intro hat (And.intro hBY a1Y))
        clear hat hBY a1Y hown hbr hwd hll c1
        go_upto_region 10 with (fail)
        go_wp2_with fail
        refine Calls.mono henc ?_
        rintro e Z ⟨rfl, hbZ⟩
        have a1 := bBlk hbZ (Array.getElem?_eq_some_iff.1 HY.out.2.2).1 HY.out.2.2
        have hBZ := bNext HY.out.2.1 hbZ
        have hatZ := HY.out.1.nxt hbZ
        have HZ := Lib.hid (And.intro hBZ (And.intro hatZ a1))
        clear henc hbZ hBZ hatZ a1
        have el := rtEnc_len (rtL b)
        obtain ⟨P, hP⟩ : ∃ q, rtEnc (rtL b) = q := ⟨_, rfl⟩
        rw [hP] at el ⊢
        have HP := Lib.hid hP
        clear hP
        have hpi := bk_info el
        have hp1 := oneCell_bvs P
        have hbz := blkZ
        have hps := blk_sizes zblk_len el
        obtain ⟨zb, hzb⟩ : ∃ q, (bvs zblk).toArray = q := ⟨_, rfl⟩
        rw [hzb] at hbz hps
        clear hzb
        go_upto_region 11 with (first
          | (refine wpList_new rfl hbz rfl ?_)
          | (refine wpList_store_row rfl 40 (.tmp 8) (.tmp 32) rfl _ (bvs P).toArray rfl rfl _ zb (heap_alloc_new _ _) hpi hps (all_oneCell_toArray hp1) ?_)
          | fail)
        generalize hX : World.setRow _ _ _ = X
        have x6 : X.heap[Z.heap.size]? = some (.cells (bvs P).toArray 40) := by rw [← hX]; exact setRow_heap _ _ _ _ _ _ (heap_alloc_new _ _)
        have hbX : Below Z.heap.size Z X := by rw [← hX]; exact bSetRow ((Below.refl _ _).alloc (Nat.le_refl _) _) (Nat.le_refl _) _
        clear hX
        obtain ⟨hBZ, hatZ, a1Z⟩ := HZ.out
        have a1 := bBlk hbX (Array.getElem?_eq_some_iff.1 a1Z).1 a1Z
        have hBX := bNext hBZ hbX
        have hatX := hatZ.nxt hbX
        clear hBZ hatZ a1Z hbX HZ HY hp1 hbz hps
        cases hg : goodR (rtL b)
        · have hno : isRt b = false := by unfold isRt; rw [HN.out, hg, Bool.false_and, Bool.and_false]
          have hnl : rtDec b = [] := by unfold rtDec; rw [hno]; rfl
          have HE := Lib.hid (And.intro hno (And.intro hnl hBX))
          clear hno hnl hBX hg hatX a1 x6
          rw [show erE false = 11 from rfl]
          go_wp2_with fail
          go_returns
          refine ⟨none, 0, 0, by rw [HE.out.1]; rfl, by rw [HE.out.2.1]; exact ivAt_none _ _, HE.out.2.2⟩
        · have hPb : sealB (rtB (rtL b)) = P := by rw [← HP.out]; unfold rtEnc; rw [hg, if_pos rfl]
          have hq := fun W => blk_q el hb W
          obtain ⟨q, hqq⟩ : ∃ q, (P == b) = q := ⟨_, rfl⟩
          simp only [hqq, HC.out] at hq
          have hlf : isRt b = q := by unfold isRt; rw [HN.out, hg, hPb, hqq, decide_eq_true h3]; rfl
          have hbi := bk_info hb
          rw [HC.out] at hbi
          have HE := Lib.hid (And.intro hlf (And.intro hBX hatX))
          obtain ⟨cp, hcp⟩ : ∃ q, (bvs P).toArray = q := ⟨_, rfl⟩
          rw [hcp] at hpi x6
          simp only [hcp] at hq
          rw [hcp]
          clear hlf hBX hg hatX hPb hqq hcp
          rw [show erE true = 0 from rfl]
          cases q
          · go_wp2_with (first
              | (refine wpList_load_row_g (by simp [Region.wanted, yielded, Act.put]) 40 (.tmp 8) rfl _ rfl _ cp (0, 0) _ x6 Try.underlying40 rfl hpi ?_)
              | (refine wpList_load_row_g (by simp [Region.wanted, yielded, Act.put]) 40 (.tmp 1) rfl _ rfl _ cb (0, 0) _ a1 Try.underlying40 rfl hbi ?_)
              | fail)
            go_returns
            refine ⟨none, 0, 0, by rw [HE.out.1]; rfl, by unfold rtDec; rw [HE.out.1]; exact ivAt_none _ _, HE.out.2.1⟩
          · go_wp2_with (first
              | (refine wpList_load_row_g (by simp [Region.wanted, yielded, Act.put]) 40 (.tmp 8) rfl _ rfl _ cp (0, 0) _ x6 Try.underlying40 rfl hpi ?_)
              | (refine wpList_load_row_g (by simp [Region.wanted, yielded, Act.put]) 40 (.tmp 1) rfl _ rfl _ cb (0, 0) _ a1 Try.underlying40 rfl hbi ?_)
              | fail)
            go_returns
            refine ⟨A4, k, c4, by rw [HE.out.1]; rfl, by unfold rtDec; rw [HE.out.1, if_pos rfl]; exact HE.out.2.2, HE.out.2.1⟩
  · have h3' : (100 : Int) < (n : Int) := by omega
    have hno : isRt b = false := by unfold isRt; rw [HN.out, decide_eq_false h3]; rfl
    have hnl : rtDec b = [] := by unfold rtDec; rw [hno]; rfl
    have HE := Lib.hid (And.intro hno (And.intro hnl hB))
    clear hno hnl hB hcell a1
    go_wp2_with fail
    go_returns
    refine ⟨none, 0, 0, by rw [HE.out.1]; rfl, by rw [HE.out.2.1]; exact ivAt_none _ _, HE.out.2.2⟩
end Go.Proofs.Ythmjkgpfnpdddaa
