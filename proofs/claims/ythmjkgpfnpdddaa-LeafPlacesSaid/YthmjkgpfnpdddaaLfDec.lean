/- The walk over leaf.Decode: the entries cut out of a block. -/
import Derived.Test.YthmjkgpfnpdddaaLfCol
import Derived.Test.YthmjkgpfnpdddaaLfEnc
namespace Go.Proofs.Ythmjkgpfnpdddaa
set_option linter.unusedSimpArgs false
set_option linter.unusedVariables false
open Go.RowKit Go.Sort

theorem at8_part (b : List UInt8) {m i : Nat} (h : i < m) : at8 ((b.drop 2).take m) i = at8 b (2 + i) := by
  unfold at8
  rw [List.getElem?_take, if_pos h, List.getElem?_drop]
theorem n16_part (b : List UInt8) {m i : Nat} (h : i + 1 < m) : n16 ((b.drop 2).take m) i = n16 b (2 + i) := by
  unfold n16
  rw [at8_part b (by omega), at8_part b h]
  rfl
theorem enAt_part (b : List UInt8) {n k : Nat} (h : k < n) : enAt ((b.drop 2).take (n * 36)) (k * 36) = enAt b (2 + k * 36) := by
  have hk : (k + 1) * 36 ≤ n * 36 := Nat.mul_le_mul_right _ h
  unfold enAt
  rw [at8_part b (show k * 36 + 32 < n * 36 by omega), at8_part b (show k * 36 + 33 < n * 36 by omega), n16_part b (show k * 36 + 34 + 1 < n * 36 by omega)]
  congr 1
  rw [List.drop_take, List.take_take, List.drop_drop, Nat.min_eq_left (by omega)]
theorem entL_enL (b : List UInt8) (n : Nat) : entL ((b.drop 2).take (n * 36)) n = enL b n := by
  unfold entL enL
  apply List.map_congr_left
  intro k hk
  exact enAt_part b (List.mem_range.1 hk)
theorem part_len {b : List UInt8} (h : b.length = 128) {n : Nat} (hn : n ≤ 3) : ((b.drop 2).take (n * 36)).length = n * 36 := by
  rw [List.length_take, List.length_drop]; omega
def LDec (w : World) (b : Blk) (e : Ending) (w' : World) : Prop := ∃ A n c, e = .returned (.tuple #[.slice A n c, .int .i64 (erE (isLf b))]) ∧ LfAt w' w'.heap.size A n c (lfDec b) ∧ Below w.heap.size w w'
theorem lfAt_none (w : World) (B : Nat) : LfAt w B none 0 0 [] := ⟨by simp, rfl, ⟨rfl, fun h => absurd h (by omega)⟩, by omega⟩
set_option maxHeartbeats 4000000 in
set_option maxRecDepth 100000 in
theorem ldec_any {b : Blk} (hb : b.length = 128) (w : World) : Calls Try.prog 26 #[bkv b] w (LDec w b) := by
  unfold bkv
  obtain ⟨cb, hcb⟩ : ∃ q, (bvs b).toArray = q := ⟨_, rfl⟩
  have HC := Lib.hid hcb
  rw [hcb]
  clear hcb
  go_enter Try.func26, Try.ntmps26
  go_upto_region 1 with (fail)
  obtain ⟨V, hV⟩ : ∃ q, w.alloc (.cells cb 40) = q := ⟨_, rfl⟩
  have a1 : V.heap[w.heap.size]? = some (.cells cb 40) := by rw [← hV]; exact heap_alloc_new _ _
  have hB : Below w.heap.size w V := by rw [← hV]; exact (Below.refl _ _).alloc (Nat.le_refl _) _
  have l1 := (Array.getElem?_eq_some_iff.1 a1).1
  rw [hV]
  clear hV
  have rb : V.rangeAt w.heap.size 0 (bvs b) := range_blk (by rw [HC.out]; exact a1)
  have c1 : V.cell? ⟨w.heap.size, 1, none⟩ = some (.int .u8 ((at8 b 1).toNat : Int)) := by
    have h1 : 1 < b.length := by omega
    have := rb 1 (.int .u8 ((at8 b 1).toNat : Int)) (by simp [bvs, bv, at8, List.getElem?_eq_getElem h1])
    simpa using this
  have hlt := (at8 b 1).toNat_lt
  obtain ⟨n, hn⟩ : ∃ n, (at8 b 1).toNat = n := ⟨_, rfl⟩
  have hN : lfN b = n := hn
  rw [hn] at c1 hlt
  have e1 : IntKind.i64.wrap (n : Int) = n := wrap_small _ (by omega) (by omega)
  have HN := Lib.hid hN
  clear hN hn
  by_cases h3 : n ≤ 3
  · have h3' : ¬ (3 : Int) < (n : Int) := by omega
    have e2 : IntKind.i64.wrap ((n : Int) * 36) = ((n * 36 : Nat) : Int) := by rw [wrap_small _ (by omega) (by omega)]; omega
    have e3 : IntKind.i64.wrap (2 + ((n * 36 : Nat) : Int)) = ((2 + n * 36 : Nat) : Int) := by rw [wrap_small _ (by omega) (by omega)]; omega
    obtain ⟨l, hl⟩ : ∃ q, (b.drop 2).take (n * 36) = q := ⟨_, rfl⟩
    have hln : l.length = n * 36 := by rw [← hl]; exact part_len hb h3
    have hll : entL l n = enL b n := by rw [← hl]; exact entL_enL b n
    have rl : V.rangeAt w.heap.size 2 (bvs l) := by
      have := range_cut rb 2 (n * 36)
      rw [← hl]
      simpa [bvs, List.map_take, List.map_drop] using this
    have HB := Lib.hid (And.intro hB (And.intro hln (And.intro hll rl)))
    have s1 : (2 : Int) ≤ 2 + (n : Int) * 36 := by omega
    have s0 : (0 : Int) ≤ 2 + (n : Int) * 36 := by omega
    have s2 : 2 + (n : Int) * 36 ≤ 128 := by omega
    have hcs : cb.size = 128 := by rw [← HC.out, List.size_toArray, bvs_len, hb]
    clear hB hln hll rl rb hl
    go_upto_region 4 with (fail)
    go_wp2_with fail
    refine Calls.mono (entries_any _ _ _ _) ?_
    rintro e W ⟨rfl, hW⟩
    have bX : W.cell? ⟨V.heap.size, 0, none⟩ = some (.slice (some ⟨w.heap.size, 2, none⟩) (n * 36) 126) := by rw [← hW]; exact (Boxed.new V _ _).cell
    have hBW : Below V.heap.size V W := by rw [← hW]; exact (Below.refl _ _).alloc (Nat.le_refl _) _
    have hzW : W.heap.size = V.heap.size + 1 := by rw [← hW]; simp
    have hcol := collect_ens (cap := 126) (w := W) HB.out.2.1 (by omega) (by omega) (by simp [maxLen]) (by omega) (by omega) bX (bRange hBW l1 HB.out.2.2.2)
    rw [HB.out.2.2.1] at hcol
    have HW := Lib.hid (And.intro hBW hzW)
    clear hW hBW hzW bX
    go_wp2_with fail
    refine Calls.mono hcol ?_
    rintro e Y ⟨A, c, rfl, hown, hbY⟩
    clear hcol
    obtain ⟨_, _, eS, hcp, -⟩ := own_form hown
    cases eS
    have hok : ∀ x ∈ enL b n, x.Ok := by
      rw [← HB.out.2.2.1]
      intro x hx
      obtain ⟨k, hk, rfl⟩ := List.mem_map.1 hx
      exact enAt_ok HB.out.2.1 (List.mem_range.1 hk)
    have hat : LfAt Y Y.heap.size A n c (enL b n) := ⟨hok, by simp [enL], Sl.of_own hown, hcp⟩
    have henc := lenc_any Y hat
    unfold bkv at henc
    have hzY := hbY.size
    have hzW := HW.out.2
    have hBY : Below w.heap.size w Y := (HB.out.1.trans (HW.out.1.mono (by omega))).trans (hbY.mono (by omega))
    have a1Y := bBlk hbY (by omega) (bBlk HW.out.1 l1 a1)
    have HY := Lib.hid (And.intro hat (And.intro hBY a1Y))
    clear hat hBY a1Y hown hok hbY a1 c1
    go_upto_region 5 with (fail)
    go_wp2_with fail
    refine Calls.mono henc ?_
    rintro e Z ⟨rfl, hbZ⟩
    have a1 := bBlk hbZ (Array.getElem?_eq_some_iff.1 HY.out.2.2).1 HY.out.2.2
    have hBZ := bNext HY.out.2.1 hbZ
    have hatZ := HY.out.1.nxt hbZ
    have HZ := Lib.hid (And.intro hBZ (And.intro hatZ a1))
    clear henc hbZ hBZ hatZ a1
    have el := lfEnc_len HY.out.1.ok
    obtain ⟨P, hP⟩ : ∃ q, lfEnc (enL b n) = q := ⟨_, rfl⟩
    rw [hP] at el ⊢
    have HP := Lib.hid hP
    clear hP
    have hpi := bk_info el
    have hp1 := oneCell_bvs P
    have hbz := blkZ
    have hps := blk_sizes zblk_len el
    obtain ⟨zb, hzb⟩ : ∃ q, (bvs zblk).toArray = q := ⟨_, rfl⟩
    rw [hzb] at hbz hps
    clear hzb
    go_upto_region 6 with (first
      | (refine wpList_new rfl hbz rfl ?_)
      | (refine wpList_store_row rfl 40 (.tmp 6) (.tmp 22) rfl _ (bvs P).toArray rfl rfl _ zb (heap_alloc_new _ _) hpi hps (all_oneCell_toArray hp1) ?_)
      | fail)
    generalize hX : World.setRow _ _ _ = X
    have x6 : X.heap[Z.heap.size]? = some (.cells (bvs P).toArray 40) := by rw [← hX]; exact setRow_heap _ _ _ _ _ _ (heap_alloc_new _ _)
    have hbX : Below Z.heap.size Z X := by rw [← hX]; exact bSetRow ((Below.refl _ _).alloc (Nat.le_refl _) _) (Nat.le_refl _) _
    clear hX
    obtain ⟨hBZ, hatZ, a1Z⟩ := HZ.out
    have a1 := bBlk hbX (Array.getElem?_eq_some_iff.1 a1Z).1 a1Z
    have hBX := bNext hBZ hbX
    have hatX := hatZ.nxt hbX
    clear hBZ hatZ a1Z hbX HZ HY hp1 hbz hps
    cases hg : goodE (enL b n)
    · have hno : isLf b = false := by unfold isLf; rw [HN.out, hg, Bool.false_and, Bool.and_false]
      have hnl : lfDec b = [] := by unfold lfDec; rw [hno]; rfl
      have HE := Lib.hid (And.intro hno (And.intro hnl hBX))
      clear hno hnl hBX hg hatX a1 x6
      rw [show erE false = 11 from rfl]
      go_wp2_with fail
      go_returns
      refine ⟨none, 0, 0, by rw [HE.out.1]; rfl, by rw [HE.out.2.1]; exact lfAt_none _ _, HE.out.2.2⟩
    · have hPb : sealB (lfB (enL b n)) = P := by rw [← HP.out]; unfold lfEnc; rw [hg, if_pos rfl]
      have hq := fun W => blk_q el hb W
      obtain ⟨q, hqq⟩ : ∃ q, (P == b) = q := ⟨_, rfl⟩
      simp only [hqq, HC.out] at hq
      have hlf : isLf b = q := by unfold isLf; rw [HN.out, hg, hPb, hqq, decide_eq_true h3]; rfl
      have hbi := bk_info hb
      rw [HC.out] at hbi
      have HE := Lib.hid (And.intro hlf (And.intro hBX hatX))
      obtain ⟨cp, hcp⟩ : ∃ q, (bvs P).toArray = q := ⟨_, rfl⟩
      rw [hcp] at hpi x6
      simp only [hcp] at hq
      rw [hcp]
      clear hlf hBX hg hatX hPb hqq hcp
      rw [show erE true = 0 from rfl]
      cases q
      · go_wp2_with (first
          | (refine wpList_load_row_g (by simp [Region.wanted, yielded, Act.put]) 40 (.tmp 6) rfl _ rfl _ cp (0, 0) _ x6 Try.underlying40 rfl hpi ?_)
          | (refine wpList_load_row_g (by simp [Region.wanted, yielded, Act.put]) 40 (.tmp 1) rfl _ rfl _ cb (0, 0) _ a1 Try.underlying40 rfl hbi ?_)
          | fail)
        go_returns
        refine ⟨none, 0, 0, by rw [HE.out.1]; rfl, by unfold lfDec; rw [HE.out.1]; exact lfAt_none _ _, HE.out.2.1⟩
      · go_wp2_with (first
          | (refine wpList_load_row_g (by simp [Region.wanted, yielded, Act.put]) 40 (.tmp 6) rfl _ rfl _ cp (0, 0) _ x6 Try.underlying40 rfl hpi ?_)
          | (refine wpList_load_row_g (by simp [Region.wanted, yielded, Act.put]) 40 (.tmp 1) rfl _ rfl _ cb (0, 0) _ a1 Try.underlying40 rfl hbi ?_)
          | fail)
        go_returns
        refine ⟨A, n, c, by rw [HE.out.1]; rfl, by unfold lfDec; rw [HE.out.1, HN.out, if_pos rfl]; exact HE.out.2.2, HE.out.2.1⟩
  · have h3' : (3 : Int) < (n : Int) := by omega
    have hno : isLf b = false := by unfold isLf; rw [HN.out, decide_eq_false h3]; rfl
    have hnl : lfDec b = [] := by unfold lfDec; rw [hno]; rfl
    have HE := Lib.hid (And.intro hno (And.intro hnl hB))
    clear hno hnl hB
    go_wp2_with fail
    go_returns
    refine ⟨none, 0, 0, by rw [HE.out.1]; rfl, by rw [HE.out.2.1]; exact lfAt_none _ _, HE.out.2.2⟩
end Go.Proofs.Ythmjkgpfnpdddaa
