/- The walk over the reference's Leaves. (s7/lfrlvs.py writes it.) -/
import Derived.Test.YthmjkgpfnpdddaaLfLvs
import Derived.Test.YthmjkgpfnpdddaaLfRRoot
namespace Go.Proofs.Ythmjkgpfnpdddaa
set_option linter.unusedSimpArgs false
set_option linter.unusedVariables false
open Go.RowKit Go.ChangeShapes Go.WideShapes Go.Sort

theorem isRt_of {b : Blk} {k : Nat} (hb : b.length = 128) (h : (lfN b = k ∧ k ≤ 100) ∨ (k = 100 ∧ 100 < lfN b)) : isRt b = (goodR (lvTo b k) && (rtEnc (lvTo b k) == b)) := by
  rcases h with ⟨rfl, h⟩ | ⟨rfl, h⟩
  · rw [lvTo_all rfl]
    unfold isRt rtEnc
    rw [decide_eq_true h, Bool.true_and]
    cases goodR (rtL b) <;> rfl
  · have h0 : isRt b = false := by unfold isRt; rw [decide_eq_false (by omega), Bool.false_and]
    rw [h0, eq_comm]
    cases hg : goodR (lvTo b 100)
    · rfl
    · rw [Bool.true_and, beq_eq_false_iff_ne]
      intro e
      have := rtN_enc hg
      rw [e, lvTo_len (by omega)] at this
      omega
theorem rtDec_of {b : Blk} {k : Nat} (h : (lfN b = k ∧ k ≤ 100) ∨ (k = 100 ∧ 100 < lfN b)) (hi : isRt b = true) : rtDec b = lvTo b k := by
  unfold rtDec
  rw [if_pos hi]
  rcases h with ⟨rfl, h⟩ | ⟨rfl, h⟩
  · rw [lvTo_all rfl]
  · unfold isRt at hi
    rw [Bool.and_eq_true, decide_eq_true_eq] at hi
    have := hi.1
    omega
attribute [-go_sem] Builtin.append_
set_option maxHeartbeats 16000000 in
set_option maxRecDepth 100000 in
theorem rleaves_any {b : Blk} (hb : b.length = 128) (w : World) : Calls Try.prog 31 #[bkv b] w (LLvs w b) := by
  unfold bkv
  obtain ⟨cb, hcb⟩ : ∃ q, (bvs b).toArray = q := ⟨_, rfl⟩
  have HC := Lib.hid hcb
  rw [hcb]
  clear hcb
  go_enter Try.func31, Try.ntmps31
  go_upto_region 1 with (fail)
  obtain ⟨V, hV⟩ : ∃ q, w.alloc (.cells cb 40) = q := ⟨_, rfl⟩
  have a1 : V.heap[w.heap.size]? = some (.cells cb 40) := by rw [← hV]; exact heap_alloc_new _ _
  have hB : Below w.heap.size w V := by rw [← hV]; exact (Below.refl _ _).alloc (Nat.le_refl _) _
  have l1 := (Array.getElem?_eq_some_iff.1 a1).1
  rw [hV]
  clear hV
  have rb : V.rangeAt w.heap.size 0 (bvs b) := range_blk (by rw [HC.out]; exact a1)
  have hcell : ∀ i : Nat, i < 128 → V.cell? ⟨w.heap.size, i, none⟩ = some (.int .u8 ((at8 b i).toNat : Int)) := fun i hi => by
    have := rb i (.int .u8 ((at8 b i).toNat : Int)) (by simp [bvs, bv, at8, List.getElem?_eq_getElem (show i < b.length by omega)])
    simpa using this
  have hlt := (at8 b 1).toNat_lt
  have c1 := hcell 1 (by omega)
  obtain ⟨n, hn⟩ : ∃ n, (at8 b 1).toNat = n := ⟨_, rfl⟩
  have hN : lfN b = n := hn
  rw [hn] at c1 hlt
  have e1 : IntKind.i64.wrap (n : Int) = n := wrap_small _ (by omega) (by omega)
  have HN := Lib.hid hN
  have HB := Lib.hid (And.intro hB (And.intro hcell (And.intro a1 rb)))
  have hcs : cb.size = 128 := by rw [← HC.out, List.size_toArray, bvs_len, hb]
  clear hN hn hB hcell a1 rb
  go_wp2_with fail
  go_loopw [4, 5] (fun sb si wr => ∃ k : Nat, k ≤ n ∧ k ≤ 100 ∧ si = .int .i64 k ∧ wr.ownsRow V.heap.size 3 1 sb k (ivs (lvTo b k)) ∧ Below V.heap.size V wr) (fun _ i _ => 100 - (intOf i).toNat)
  case atStart => exact ⟨0, by omega, by omega, rfl, by rw [lvTo_zero]; exact World.ownsRow_nil _ _ _ _, Below.refl _ _⟩
  case round =>
    obtain ⟨k, hk, hk3, rfl, hown, hbr⟩ := hrel
    obtain ⟨A4, c4, rfl, hc4⟩ := own_form hown
    have c1r := (hbr.cell (p := ⟨w.heap.size, 1, none⟩) l1).trans c1
    by_cases hkn : k < n
    · have hi1 : (k : Int) < (n : Int) := by omega
      by_cases hk4 : k < 100
      · have hi2 : (k : Int) < 100 := by omega
        have ck := HB.out.2.1 (2 + k) (by omega)
        have hyl := (at8 b (2 + k)).toNat_lt
        have hs := lvTo_succ (b := b) (k := k) (by omega)
        obtain ⟨y, hy⟩ : ∃ y, (at8 b (2 + k)).toNat = y := ⟨_, rfl⟩
        rw [hy] at ck hyl hs
        replace ck := (hbr.cell (p := ⟨w.heap.size, 2 + k, none⟩) l1).trans ck
        have hzr := hbr.size
        have ey : IntKind.i64.wrap (y : Int) = y := wrap_small _ (by omega) (by omega)
        have x2 : IntKind.i64.wrap (2 + (k : Int)) = 2 + (k : Int) := wrap_small _ (by omega) (by omega)
        have x3 : (2 + (k : Int)).toNat = 2 + k := by omega
        have x4 : (0 : Int) ≤ 2 + (k : Int) := by omega
        have x5 : 2 + (k : Int) < 128 := by omega
        have HY := Lib.hid (And.intro hs hbr)
        have hsx : Sl (wr.alloc (.cells #[Value.int .i64 y] 3)) (wr.alloc (.cells #[Value.int .i64 y] 3)).heap.size 1 (some ⟨wr.heap.size, 0, none⟩) 1 (ivs [(y : Int)]) :=
          Sl.new (sz := 1) (n := 1) (heap_alloc_new wr (.cells #[Value.int .i64 y] 3)) rfl
        clear hs hbr hy
        go_wp2_with (first
          | (at_builtin; go_loud (refine wpList_app _ rfl (.tmp 19) (.tmp 25) 50 rfl (base := V.heap.size) Try.underlying50 elemI rfl (hown.alloc _) rfl hsx (one_ivs _) (by simp only [maxLen]; omega) (by omega) (by simp; omega) ?_; intro A41 c41 w41 hown4 hg4 hb4 hat4))
          | fail)
        refine ⟨⟨k + 1, by omega, by omega, by go_num, ?_, (HY.out.2.alloc hzr _).trans hb4⟩, by simp [intOf]; omega⟩
        rw [HY.out.1, ivs_append]
        exact hown4
      · obtain rfl : k = 100 := by omega
        have hi2 : ¬ ((100 : Nat) : Int) < 100 := by omega
        have hway : (lfN b = 100 ∧ 100 ≤ 100) ∨ (100 = 100 ∧ 100 < lfN b) := .inr ⟨rfl, by rw [HN.out]; exact hkn⟩
        have hat : IvAt wr wr.heap.size A4 100 c4 (lvTo b 100) := ⟨lvTo_wide b _, lvTo_len (by omega), Sl.of_own hown, hc4.1⟩
        have hlf := isRt_of hb hway
        have hld := rtDec_of hway
        have henc := rroot_any wr hat (by omega)
        unfold bkv at henc
        have hBY := bNext HB.out.1 hbr
        have a1Y := bBlk hbr l1 HB.out.2.2.1
        have el := rtEnc_len (lvTo b 100)
        have HY := Lib.hid (And.intro hat (And.intro hBY a1Y))
        have HL := Lib.hid (And.intro hlf hld)
        clear hat hBY a1Y hown hbr hway hlf hld
        go_upto_region 6 with (fail)
        go_wp2_with fail
        refine Calls.mono henc ?_
        rintro e Z ⟨rfl, hbZ⟩
        have a1 := bBlk hbZ (Array.getElem?_eq_some_iff.1 HY.out.2.2).1 HY.out.2.2
        have hBZ := bNext HY.out.2.1 hbZ
        have hatZ := HY.out.1.nxt hbZ
        have HZ := Lib.hid (And.intro hBZ (And.intro hatZ a1))
        clear henc hbZ hBZ hatZ a1
        obtain ⟨P, hP⟩ : ∃ q, rtEnc (lvTo b 100) = q := ⟨_, rfl⟩
        rw [hP] at el ⊢
        have HP := Lib.hid hP
        clear hP
        have hpi := bk_info el
        have hp1 := oneCell_bvs P
        have hbz := blkZ
        have hps := blk_sizes zblk_len el
        obtain ⟨zb, hzb⟩ : ∃ q, (bvs zblk).toArray = q := ⟨_, rfl⟩
        rw [hzb] at hbz hps
        clear hzb
        go_upto_region 7 with (first
          | (refine wpList_new rfl hbz rfl ?_)
          | (refine wpList_store_row rfl 40 (.tmp 6) (.tmp 30) rfl _ (bvs P).toArray rfl rfl _ zb (heap_alloc_new _ _) hpi hps (all_oneCell_toArray hp1) ?_)
          | fail)
        generalize hX : World.setRow _ _ _ = X
        have x6 : X.heap[Z.heap.size]? = some (.cells (bvs P).toArray 40) := by rw [← hX]; exact setRow_heap _ _ _ _ _ _ (heap_alloc_new _ _)
        have hbX : Below Z.heap.size Z X := by rw [← hX]; exact bSetRow ((Below.refl _ _).alloc (Nat.le_refl _) _) (Nat.le_refl _) _
        clear hX
        obtain ⟨hBZ, hatZ, a1Z⟩ := HZ.out
        have a1 := bBlk hbX (Array.getElem?_eq_some_iff.1 a1Z).1 a1Z
        have hBX := bNext hBZ hbX
        have hatX := hatZ.nxt hbX
        obtain ⟨hlf, hld⟩ := HL.out
        rw [HP.out] at hlf
        clear hBZ hatZ a1Z hbX HZ HY hp1 hbz hps HL HP
        cases hg : goodR (lvTo b 100)
        · have hno : isRt b = false := by rw [hlf, hg, Bool.false_and]
          have hnl : rtDec b = [] := by unfold rtDec; rw [hno]; rfl
          have HE := Lib.hid (And.intro hno (And.intro hnl hBX))
          clear hno hnl hBX hg hatX a1 x6 hlf hld
          rw [show erE false = 11 from rfl]
          go_wp2_with fail
          go_returns
          refine ⟨none, 0, 0, by rw [HE.out.1]; rfl, by rw [HE.out.2.1]; exact ivAt_none _ _, HE.out.2.2⟩
        · have hq := fun W => blk_q el hb W
          obtain ⟨q, hqq⟩ : ∃ q, (P == b) = q := ⟨_, rfl⟩
          simp only [hqq, HC.out] at hq
          rw [hg, hqq, Bool.true_and] at hlf
          have hbi := bk_info hb
          rw [HC.out] at hbi
          have HE := Lib.hid (And.intro hlf (And.intro hBX (And.intro hatX hld)))
          obtain ⟨cp, hcp⟩ : ∃ q, (bvs P).toArray = q := ⟨_, rfl⟩
          rw [hcp] at hpi x6
          simp only [hcp] at hq
          rw [hcp]
          clear hlf hBX hg hatX hqq hcp hld
          rw [show erE true = 0 from rfl]
          cases q
          · go_wp2_with (first
              | (refine wpList_load_row_g (by simp [Region.wanted, yielded, Act.put]) 40 (.tmp 6) rfl _ rfl _ cp (0, 0) _ x6 Try.underlying40 rfl hpi ?_)
              | (refine wpList_load_row_g (by simp [Region.wanted, yielded, Act.put]) 40 (.tmp 1) rfl _ rfl _ cb (0, 0) _ a1 Try.underlying40 rfl hbi ?_)
              | fail)
            go_returns
            refine ⟨none, 0, 0, by rw [HE.out.1]; rfl, by unfold rtDec; rw [HE.out.1]; exact ivAt_none _ _, HE.out.2.1⟩
          · go_wp2_with (first
              | (refine wpList_load_row_g (by simp [Region.wanted, yielded, Act.put]) 40 (.tmp 6) rfl _ rfl _ cp (0, 0) _ x6 Try.underlying40 rfl hpi ?_)
              | (refine wpList_load_row_g (by simp [Region.wanted, yielded, Act.put]) 40 (.tmp 1) rfl _ rfl _ cb (0, 0) _ a1 Try.underlying40 rfl hbi ?_)
              | fail)
            go_returns
            refine ⟨A4, 100, c4, by rw [HE.out.1]; rfl, by rw [HE.out.2.2.2 HE.out.1]; exact HE.out.2.2.1, HE.out.2.1⟩
    · obtain rfl : k = n := by omega
      have hi1 : ¬ (k : Int) < (k : Int) := by omega
      have hway : (lfN b = k ∧ k ≤ 100) ∨ (k = 100 ∧ 100 < lfN b) := .inl ⟨HN.out, hk3⟩
      have hat : IvAt wr wr.heap.size A4 k c4 (lvTo b k) := ⟨lvTo_wide b _, lvTo_len (by omega), Sl.of_own hown, hc4.1⟩
      have hlf := isRt_of hb hway
      have hld := rtDec_of hway
      have henc := rroot_any wr hat (by omega)
      unfold bkv at henc
      have hBY := bNext HB.out.1 hbr
      have a1Y := bBlk hbr l1 HB.out.2.2.1
      have el := rtEnc_len (lvTo b k)
      have HY := Lib.hid (And.intro hat (And.intro hBY a1Y))
      have HL := Lib.hid (And.intro hlf hld)
      clear hat hBY a1Y hown hbr hway hlf hld
      go_upto_region 6 with (fail)
      go_wp2_with fail
      refine Calls.mono henc ?_
      rintro e Z ⟨rfl, hbZ⟩
      have a1 := bBlk hbZ (Array.getElem?_eq_some_iff.1 HY.out.2.2).1 HY.out.2.2
      have hBZ := bNext HY.out.2.1 hbZ
      have hatZ := HY.out.1.nxt hbZ
      have HZ := Lib.hid (And.intro hBZ (And.intro hatZ a1))
      clear henc hbZ hBZ hatZ a1
      obtain ⟨P, hP⟩ : ∃ q, rtEnc (lvTo b k) = q := ⟨_, rfl⟩
      rw [hP] at el ⊢
      have HP := Lib.hid hP
      clear hP
      have hpi := bk_info el
      have hp1 := oneCell_bvs P
      have hbz := blkZ
      have hps := blk_sizes zblk_len el
      obtain ⟨zb, hzb⟩ : ∃ q, (bvs zblk).toArray = q := ⟨_, rfl⟩
      rw [hzb] at hbz hps
      clear hzb
      go_upto_region 7 with (first
        | (refine wpList_new rfl hbz rfl ?_)
        | (refine wpList_store_row rfl 40 (.tmp 6) (.tmp 30) rfl _ (bvs P).toArray rfl rfl _ zb (heap_alloc_new _ _) hpi hps (all_oneCell_toArray hp1) ?_)
        | fail)
      generalize hX : World.setRow _ _ _ = X
      have x6 : X.heap[Z.heap.size]? = some (.cells (bvs P).toArray 40) := by rw [← hX]; exact setRow_heap _ _ _ _ _ _ (heap_alloc_new _ _)
      have hbX : Below Z.heap.size Z X := by rw [← hX]; exact bSetRow ((Below.refl _ _).alloc (Nat.le_refl _) _) (Nat.le_refl _) _
      clear hX
      obtain ⟨hBZ, hatZ, a1Z⟩ := HZ.out
      have a1 := bBlk hbX (Array.getElem?_eq_some_iff.1 a1Z).1 a1Z
      have hBX := bNext hBZ hbX
      have hatX := hatZ.nxt hbX
      obtain ⟨hlf, hld⟩ := HL.out
      rw [HP.out] at hlf
      clear hBZ hatZ a1Z hbX HZ HY hp1 hbz hps HL HP
      cases hg : goodR (lvTo b k)
      · have hno : isRt b = false := by rw [hlf, hg, Bool.false_and]
        have hnl : rtDec b = [] := by unfold rtDec; rw [hno]; rfl
        have HE := Lib.hid (And.intro hno (And.intro hnl hBX))
        clear hno hnl hBX hg hatX a1 x6 hlf hld
        rw [show erE false = 11 from rfl]
        go_wp2_with fail
        go_returns
        refine ⟨none, 0, 0, by rw [HE.out.1]; rfl, by rw [HE.out.2.1]; exact ivAt_none _ _, HE.out.2.2⟩
      · have hq := fun W => blk_q el hb W
        obtain ⟨q, hqq⟩ : ∃ q, (P == b) = q := ⟨_, rfl⟩
        simp only [hqq, HC.out] at hq
        rw [hg, hqq, Bool.true_and] at hlf
        have hbi := bk_info hb
        rw [HC.out] at hbi
        have HE := Lib.hid (And.intro hlf (And.intro hBX (And.intro hatX hld)))
        obtain ⟨cp, hcp⟩ : ∃ q, (bvs P).toArray = q := ⟨_, rfl⟩
        rw [hcp] at hpi x6
        simp only [hcp] at hq
        rw [hcp]
        clear hlf hBX hg hatX hqq hcp hld
        rw [show erE true = 0 from rfl]
        cases q
        · go_wp2_with (first
            | (refine wpList_load_row_g (by simp [Region.wanted, yielded, Act.put]) 40 (.tmp 6) rfl _ rfl _ cp (0, 0) _ x6 Try.underlying40 rfl hpi ?_)
            | (refine wpList_load_row_g (by simp [Region.wanted, yielded, Act.put]) 40 (.tmp 1) rfl _ rfl _ cb (0, 0) _ a1 Try.underlying40 rfl hbi ?_)
            | fail)
          go_returns
          refine ⟨none, 0, 0, by rw [HE.out.1]; rfl, by unfold rtDec; rw [HE.out.1]; exact ivAt_none _ _, HE.out.2.1⟩
        · go_wp2_with (first
            | (refine wpList_load_row_g (by simp [Region.wanted, yielded, Act.put]) 40 (.tmp 6) rfl _ rfl _ cp (0, 0) _ x6 Try.underlying40 rfl hpi ?_)
            | (refine wpList_load_row_g (by simp [Region.wanted, yielded, Act.put]) 40 (.tmp 1) rfl _ rfl _ cb (0, 0) _ a1 Try.underlying40 rfl hbi ?_)
            | fail)
          go_returns
          refine ⟨A4, k, c4, by rw [HE.out.1]; rfl, by rw [HE.out.2.2.2 HE.out.1]; exact HE.out.2.2.1, HE.out.2.1⟩
end Go.Proofs.Ythmjkgpfnpdddaa
