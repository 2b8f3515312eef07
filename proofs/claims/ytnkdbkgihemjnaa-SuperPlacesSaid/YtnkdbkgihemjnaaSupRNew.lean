/- The walk over the reference's Newest. -/
import Derived.Test.YtnkdbkgihemjnaaSupNew2
namespace Go.Proofs.Ytnkdbkgihemjnaa
set_option linter.unusedSimpArgs false
set_option linter.unusedVariables false
open Go.RowKit Go.ChangeShapes Go.WideShapes Go.Sort

set_option maxHeartbeats 8000000 in
set_option maxRecDepth 100000 in
theorem rnewest_nil (w : World) : Calls Try.prog 27 #[.pointer none] w (Ret w (.tuple #[spv sp0, .int .i64 1])) := by
  unfold spv
  obtain ⟨W, hW⟩ : ∃ W, w.alloc (.cells sp0.cells.toArray 38) = W := ⟨_, rfl⟩
  have hBW : Below w.heap.size w W := by rw [← hW]; exact (Below.refl _ _).alloc (Nat.le_refl _) _
  have bb : W.heap[w.heap.size]? = some (.cells sp0.cells.toArray 38) := by rw [← hW]; exact heap_alloc_new _ _
  have hin : (Try.prog.info? 38).map (·.size) = some sp0.cells.toArray.size := sp_info sp0_ok
  have hX2 := setRow_heap W w.heap.size sp0.cells.toArray sp0.cells.toArray 38 _ bb
  have hBX := bSetRow hBW (Nat.le_refl _) sp0.cells.toArray
  have hld := run_loadVar_row (P := Try.prog) (W.setRow w.heap.size sp0.cells.toArray) _ _ 38 _ _ _ hX2 Try.underlying38 rfl hin
  have HX := Lib.hid hBX
  clear hX2 hBX
  go_enter Try.func27, Try.ntmps27
  go_wp2_with (first
    | (refine wpList_new rfl spZ rfl ?_)
    | (refine wpList_built rfl 38 #[] rfl (cs := sp0.cells.toArray) (by simp only [List.map_toArray, List.map_nil]; exact built_sp0) ?_)
    | (refine wpList_store_row rfl 38 (.tmp 2) (.tmp 12) rfl _ sp0.cells.toArray rfl rfl _ sp0.cells.toArray bb hin rfl (all_oneCell_toArray (one_sp _)) ?_)
    | fail)
  refine bodyPost_ret (by simp [results, Try.results27, Act.put, asAddr, Result.andThen, hld]; try rfl) rfl ?_
  exact Ret.mk rfl HX.out

set_option maxHeartbeats 8000000 in
set_option maxRecDepth 100000 in
theorem rnewest_any {w : World} {base p B : Nat} {v : Value} {d : DS} {F : Int} (h : RDk w base p B v d F) (hlo : d.lo.length < 1000000) :
    Calls Try.prog 27 #[dp p] w (Ret w (.tuple #[spv d.newest, .int .i64 d.newestE])) := by
  unfold spv
  have hok := h.ok
  obtain ⟨W, hW⟩ : ∃ W, w.alloc (.cells sp0.cells.toArray 38) = W := ⟨_, rfl⟩
  have hBW : Below w.heap.size w W := by rw [← hW]; exact (Below.refl _ _).alloc (Nat.le_refl _) _
  have hzW : W.heap.size = w.heap.size + 1 := by rw [← hW]; simp
  have bb : W.heap[w.heap.size]? = some (.cells sp0.cells.toArray 38) := by rw [← hW]; exact heap_alloc_new _ _
  obtain ⟨Y, hY⟩ : ∃ Y, (W.alloc (.cells sp0.cells.toArray 38)).setRow W.heap.size sp0.cells.toArray = Y := ⟨_, rfl⟩
  have hBY : Below W.heap.size W Y := by rw [← hY]; exact bSetRow ((Below.refl _ _).alloc (Nat.le_refl _) _) (Nat.le_refl _) _
  have yb : Y.heap[W.heap.size]? = some (.cells sp0.cells.toArray 38) := by rw [← hY]; exact setRow_heap _ _ _ _ _ _ (heap_alloc_new _ _)
  have hzY : W.heap.size < Y.heap.size := (Array.getElem?_eq_some_iff.1 yb).1
  have bb1 := bBlk hBY (by omega) bb
  have hB1 : Below w.heap.size w Y := hBW.trans (hBY.mono (by omega))
  have hk := (h.below hBW).below hBY
  have hin : (Try.prog.info? 38).map (·.size) = some sp0.cells.toArray.size := sp_info sp0_ok
  have HOWN := Lib.hid (fun k hk => (h.own_ge k hk).2)
  have HK := Lib.hid hk
  have HZ := Lib.hid hzW
  have HOW : Hid (∀ k, k = W.heap.size → ¬ Own p B v k) := Lib.hid fun k e hk => by have := HOWN.out k hk; omega
  have hzw : w.heap.size < W.heap.size := by omega
  clear hk h hzW
  unfold dp
  go_enter Try.func27, Try.ntmps27
  go_wp2_with (first
    | (refine wpList_new rfl spZ rfl ?_)
    | (refine wpList_built rfl 38 #[] rfl (cs := sp0.cells.toArray) (by simp only [List.map_toArray, List.map_nil]; exact built_sp0) ?_)
    | (refine wpList_store_row rfl 38 (.tmp 4) (.tmp 13) rfl _ sp0.cells.toArray rfl rfl _ sp0.cells.toArray (heap_alloc_new _ _) hin rfl (all_oneCell_toArray (one_sp _)) ?_)
    | fail)
  try rw [hY]
  go_wp2_with fail
  go_loopw [5] (fun i wr => ∃ k : Nat, i = .int .i64 k ∧ k ≤ 2 ∧ wr.heap[W.heap.size]? = some (.cells (bestL (d.seq k)).cells.toArray 38) ∧ (bestL (d.seq k)).Ok ∧ But Y.heap.size (· = W.heap.size) Y wr ∧ (k = 0 ∨ d.down = false)) (fun i _ => 2 - (intOf i).toNat)
  case atStart => exact ⟨0, rfl, by omega, yb, sp0_ok, But.refl _ _ _, .inl rfl⟩
  case round =>
    obtain ⟨k, rfl, hk2, b4, hbo, hBr, hdk⟩ := hrel
    have HDK := Lib.hid hdk
    clear hdk
    have hkr := HK.out.kept hBr (Nat.le_refl _) (fun k e => HOW.out k e)
    have b2 := hBr.blk (by omega) (by omega) bb1
    have hBw : Below w.heap.size w wr := hB1.trans (hBr.below (by omega) (fun k e => by omega))
    have hzr := hBr.size
    by_cases hlt : k < 2
    · have hread := rread_any hkr hlo (k : Int)
      have hbl := hok.read (k : Int)
      have HAT := Lib.hid (isAt_iff d k)
      have HS : Hid (d.seq (k + 1) = d.seq k ++ (if d.isAt k then [decP (d.read (k : Int))] else [])) := Lib.hid rfl
      obtain ⟨b, hb⟩ : ∃ b, d.read (k : Int) = b := ⟨_, rfl⟩
      rw [hb] at hread hbl HAT HS
      clear hb
      unfold bkv dp at hread
      obtain ⟨bo, hbo'⟩ : ∃ bo, bestL (d.seq k) = bo := ⟨_, rfl⟩
      have HBO := Lib.hid hbo'
      rw [hbo'] at b4 hbo
      clear hbo'
      cases hdn : d.down
      · have hE := readE_up hok hdn hlt
        rw [hE] at hread
        clear hE
        go_wp2_with fail
        refine hread.mono ?_
        rintro e w1 ⟨rfl, hb1⟩
        have hdec := fun W => rdecode_any hbl W
        unfold bkv spv at hdec
        have hsok := decS_ok hbl
        have hsi := sp_info hsok
        have hsl := sp_len hsok
        obtain ⟨s, hs⟩ : ∃ s, decS b = s := ⟨_, rfl⟩
        rw [hs] at hsok hsi hsl hdec
        obtain ⟨Y1, hYY⟩ : ∃ Y, (w1.alloc (.cells (bvs zblk).toArray 40)).setRow w1.heap.size (bvs b).toArray = Y := ⟨_, rfl⟩
        have y4 : Y1.heap[w1.heap.size]? = some (.cells (bvs b).toArray 40) := by rw [← hYY]; exact setRow_heap _ _ _ _ _ _ (heap_alloc_new _ _)
        have hbY : Below w1.heap.size w1 Y1 := by rw [← hYY]; exact bSetRow ((Below.refl _ _).alloc (Nat.le_refl _) _) (Nat.le_refl _) _
        have hz1 := hb1.size
        have hbr : Below wr.heap.size wr Y1 := hb1.trans (hbY.mono hz1)
        clear hread
        go_upto_region 10 with (first
          | (refine wpList_new rfl blkZ rfl ?_)
          | (refine wpList_store_row rfl 40 (.tmp 6) (.tmp 22) rfl _ (bvs b).toArray rfl rfl _ (bvs zblk).toArray (heap_alloc_new _ _) (bk_info hbl) (blk_sizes zblk_len hbl) (all_oneCell_toArray (oneCell_bvs _)) ?_)
          | fail)
        try rw [hYY]
        clear hYY
        go_upto_region 11 with (first
          | (refine wpList_load_row rfl 40 (.tmp 6) rfl _ rfl _ (bvs b).toArray (0, 0) _ y4 Try.underlying40 rfl (bk_info hbl) ?_)
          | (go_at_call 48; refine Calls.mono (hdec _) ?_; rintro e w2 ⟨rfl, hb2⟩)
          | (refine wpList_new rfl spZ rfl ?_)
          | (refine wpList_store_row rfl 38 (.tmp 8) (.tmp 30) rfl _ s.cells.toArray rfl rfl _ sp0.cells.toArray (heap_alloc_new _ _) hsi (by rw [List.size_toArray, List.size_toArray, hsok.len, sp0_ok.len]) (all_oneCell_toArray (one_sp _)) ?_)
          | fail)
        obtain ⟨V, hVV⟩ : ∃ V, (w2.alloc (.cells sp0.cells.toArray 38)).setRow w2.heap.size s.cells.toArray = V := ⟨_, rfl⟩
        rw [hVV]
        have v6 : V.heap[w2.heap.size]? = some (.cells s.cells.toArray 38) := by rw [← hVV]; exact setRow_heap _ _ _ _ _ _ (heap_alloc_new _ _)
        have hbV : Below w2.heap.size w2 V := by rw [← hVV]; exact bSetRow ((Below.refl _ _).alloc (Nat.le_refl _) _) (Nat.le_refl _) _
        clear hVV
        have hz2 := hb2.size
        have hz0 := hbr.size
        have hbrV : Below wr.heap.size wr V := hbr.trans ((hb2.trans (hbV.mono hz2)).mono hz0)
        obtain ⟨-, c0, c1, -, -, -⟩ := SpAt.of hsok v6
        have v4 := bBlk hbrV (by omega) b4
        have v2 := bBlk hbrV (by omega) b2
        have hkV := hkr.below hbrV
        have q0 := hkV.hds.c0
        have q4 := blk_cell v4 (sp_gen bo)
        have HR := Lib.hid (And.intro hbrV hkV)
        clear hdec y4 hbr hb1 hb2 hbY hbV hkV hkr b2 hbrV
        have HDN := Lib.hid hdn
        have HSB := Lib.hid hs
        have HI : ∀ w : World, True := fun _ => trivial
        clear hs hdn HI
        cases his : isS b
        · have hE : decE b = 11 := by unfold decE; rw [his]; rfl
          have HAT2 : d.isAt k = false := by rw [HAT.out, his]; rfl
          have HB1 : Hid (bestL (d.seq (k + 1)) = bo) := Lib.hid (by rw [HS.out, HAT2]; simp only [Bool.false_eq_true, if_false, List.append_nil]; exact HBO.out)
          rw [hE]
          clear HAT2 hE his
          go_quiet (fail)
          go_wp2_with fail
          go_roundw
          case rel => exact ⟨k + 1, by go_num, by omega, by rw [HB1.out]; exact v4, by rw [HB1.out]; exact hbo, hBr.trans ((but_of (bDrewN HR.out.1 nq)).less hzr), (by first | exact .inr trivial | exact .inr HDN.out)⟩
          case measure => simp [intOf]; omega
        · have hE : decE b = 0 := by unfold decE; rw [his]; rfl
          have hsd : s = decP b := by rw [← HSB.out]; unfold decS; rw [his]; rfl
          rw [hE]
          by_cases hm : (s.gen : Int) % 2 = (k : Int)
          · by_cases hbk : s.blocks = (d.bl.length : Int)
            · have HAT2 : d.isAt k = true := by
                rw [HAT.out, ← hsd]
                simp only [Bool.and_eq_true, decide_eq_true_eq]
                exact ⟨⟨his, by omega⟩, hbk⟩
              have HB2 : bestL (d.seq (k + 1)) = best1 bo s := by
                rw [HS.out, HAT2, if_pos rfl, bestL_snoc, HBO.out, ← hsd]
              have g1 : ((s.gen : Int) % 2 == (k : Int)) = true := by simpa using hm
              have g2 : decide ((s.gen : Int) % 2 = (k : Int)) = true := by simpa using hm
              have g3 : (s.blocks == (d.bl.length : Int)) = true := by simpa using hbk
              have g4 : decide (s.blocks = (d.bl.length : Int)) = true := by simpa using hbk
              by_cases hgt : bo.gen < s.gen
              · have HB3 : Hid (bestL (d.seq (k + 1)) = s) := Lib.hid (by rw [HB2]; unfold best1; rw [if_pos hgt])
                have g5 : (bo.gen : Int) < (s.gen : Int) := by omega
                have hsz2 : bo.cells.toArray.size = s.cells.toArray.size := by rw [List.size_toArray, List.size_toArray, hsok.len, hbo.len]
                clear HB2 hgt hm hbk hsd his hE HAT2
                go_quiet (fail)
                have w6 : (V.drewN nq).heap[w2.heap.size]? = some (.cells s.cells.toArray 38) := v6
                have w4 : (V.drewN nq).heap[W.heap.size]? = some (.cells bo.cells.toArray 38) := v4
                have hBZ : But Y.heap.size (· = W.heap.size) Y (V.drewN nq) := hBr.trans ((but_of (bDrewN HR.out.1 nq)).less hzr)
                generalize V.drewN nq = Z at *
                obtain ⟨Z2, hZ2⟩ : ∃ Z2, World.setRow Z W.heap.size s.cells.toArray = Z2 := ⟨_, rfl⟩
                have z4 : Z2.heap[W.heap.size]? = some (.cells s.cells.toArray 38) := by rw [← hZ2]; exact setRow_heap _ _ _ _ _ _ w4
                have hBZ2 : But Y.heap.size (· = W.heap.size) Y Z2 := by rw [← hZ2]; exact but_setRow (X := (· = W.heap.size)) hBZ rfl _
                go_wp2_with (first
                  | (refine wpList_load_row rfl 38 (.tmp 8) rfl _ rfl _ s.cells.toArray (0, 0) _ w6 Try.underlying38 rfl hsi ?_)
                  | (refine wpList_store_row rfl 38 (.tmp 4) (.tmp 59) rfl _ s.cells.toArray rfl rfl _ bo.cells.toArray w4 hsi hsz2 (all_oneCell_toArray (one_sp _)) ?_)
                  | fail)
                try rw [hZ2]
                go_roundw
                case rel => exact ⟨k + 1, by go_num, by omega, by rw [HB3.out]; exact z4, by rw [HB3.out]; exact hsok, hBZ2, (by first | exact .inr trivial | exact .inr HDN.out)⟩
                case measure => simp [intOf]; omega
              · have HB1 : Hid (bestL (d.seq (k + 1)) = bo) := Lib.hid (by rw [HB2]; unfold best1; rw [if_neg hgt])
                have g5 : ¬ (bo.gen : Int) < (s.gen : Int) := by omega
                have g6 : decide ((bo.gen : Int) < (s.gen : Int)) = false := by simp; omega
                clear HB2 hgt hm hbk hsd his hE HAT2
                go_quiet (fail)
                go_wp2_with fail
                go_roundw
                case rel => exact ⟨k + 1, by go_num, by omega, by rw [HB1.out]; exact v4, by rw [HB1.out]; exact hbo, hBr.trans ((but_of (bDrewN HR.out.1 nq)).less hzr), (by first | exact .inr trivial | exact .inr HDN.out)⟩
                case measure => simp [intOf]; omega
            · have g1 : ((s.gen : Int) % 2 == (k : Int)) = true := by simpa using hm
              have g2 : decide ((s.gen : Int) % 2 = (k : Int)) = true := by simpa using hm
              have g3 : (s.blocks == (d.bl.length : Int)) = false := by simpa using hbk
              have g4 : decide (s.blocks = (d.bl.length : Int)) = false := by simpa using hbk
              have HAT2 : d.isAt k = false := by rw [HAT.out, ← hsd, g4, Bool.and_false]
              have HB1 : Hid (bestL (d.seq (k + 1)) = bo) := Lib.hid (by rw [HS.out, HAT2]; simp only [Bool.false_eq_true, if_false, List.append_nil]; exact HBO.out)
              clear hm hbk hsd his hE HAT2
              go_quiet (fail)
              go_wp2_with fail
              go_roundw
              case rel => exact ⟨k + 1, by go_num, by omega, by rw [HB1.out]; exact v4, by rw [HB1.out]; exact hbo, hBr.trans ((but_of (bDrewN HR.out.1 nq)).less hzr), (by first | exact .inr trivial | exact .inr HDN.out)⟩
              case measure => simp [intOf]; omega
          · have g1 : ((s.gen : Int) % 2 == (k : Int)) = false := by simpa using hm
            have g2 : decide ((s.gen : Int) % 2 = (k : Int)) = false := by simpa using hm
            have g5 : decide ((decP b).gen % 2 = k) = false := by rw [← hsd]; simp; omega
            have HAT2 : d.isAt k = false := by rw [HAT.out, g5, Bool.and_false, Bool.false_and]
            have HB1 : Hid (bestL (d.seq (k + 1)) = bo) := Lib.hid (by rw [HS.out, HAT2]; simp only [Bool.false_eq_true, if_false, List.append_nil]; exact HBO.out)
            clear hm hsd his hE HAT2 g5
            go_quiet (fail)
            go_wp2_with fail
            go_roundw
            case rel => exact ⟨k + 1, by go_num, by omega, by rw [HB1.out]; exact v4, by rw [HB1.out]; exact hbo, hBr.trans ((but_of (bDrewN HR.out.1 nq)).less hzr), (by first | exact .inr trivial | exact .inr HDN.out)⟩
            case measure => simp [intOf]; omega
      · have hE : d.readE (k : Int) = 12 := by
          have := hok.n16
          unfold DS.readE
          rw [DS.inB_iff.2 ⟨by omega, by omega⟩, hdn]; rfl
        rw [hE] at hread
        clear hE
        go_wp2_with fail
        refine hread.mono ?_
        rintro e w1 ⟨rfl, hb1⟩
        have b21 := bBlk hb1 (by omega) b2
        obtain ⟨Y1, hYY⟩ : ∃ Y, (w1.alloc (.cells (bvs zblk).toArray 40)).setRow w1.heap.size (bvs b).toArray = Y := ⟨_, rfl⟩
        have hbY : Below w1.heap.size w1 Y1 := by rw [← hYY]; exact bSetRow ((Below.refl _ _).alloc (Nat.le_refl _) _) (Nat.le_refl _) _
        have hz1 := hb1.size
        have x1 := bBlk hbY (by omega) b21
        have hBY := hBw.trans ((hb1.trans (hbY.mono hz1)).mono hBw.size)
        obtain ⟨V2, hV2⟩ : ∃ V, World.setRow Y1 w.heap.size sp0.cells.toArray = V := ⟨_, rfl⟩
        have hBV : Below w.heap.size w V2 := by rw [← hV2]; exact bSetRow hBY (Nat.le_refl _) _
        have x2 : V2.heap[w.heap.size]? = some (.cells sp0.cells.toArray 38) := by rw [← hV2]; exact setRow_heap _ _ _ _ _ _ x1
        have hN : d.newest = sp0 ∧ d.newestE = 12 := by unfold DS.newest DS.newestE; rw [hdn]; exact ⟨rfl, rfl⟩
        have HN := Lib.hid hN
        clear hN hread hkr b4 b2 b21 hb1 hbY hdn
        go_wp2_with (first
          | (refine wpList_new rfl blkZ rfl ?_)
          | (refine wpList_store_row rfl 40 (.tmp 6) (.tmp 22) rfl _ (bvs b).toArray rfl rfl _ (bvs zblk).toArray (heap_alloc_new _ _) (bk_info hbl) (blk_sizes zblk_len hbl) (all_oneCell_toArray (oneCell_bvs _)) ?_)
          | (refine wpList_built rfl 38 #[] rfl (cs := sp0.cells.toArray) (by simp only [List.map_toArray, List.map_nil]; exact built_sp0) ?_)
          | (refine wpList_store_row rfl 38 (.tmp 2) (.tmp 26) rfl _ sp0.cells.toArray rfl rfl _ sp0.cells.toArray x1 hin rfl (all_oneCell_toArray (one_sp _)) ?_)
          | fail)
        try rw [hV2]
        have hld := run_loadVar_row (P := Try.prog) V2 _ _ 38 _ _ _ x2 Try.underlying38 rfl hin
        refine bodyPost_ret (by simp [results, Try.results27, Act.put, asAddr, Result.andThen, hld]; try rfl) rfl ?_
        exact Ret.mk (by rw [HN.out.1, HN.out.2]) hBV
    · obtain rfl : k = 2 := by omega
      have hdn : d.down = false := by rcases HDK.out with e | e; omega; exact e
      obtain ⟨n1, n2⟩ := newest_of hdn
      have HZ0 := Lib.hid (best_zero (l := d.seq 2))
      obtain ⟨bo, hbo'⟩ : ∃ bo, bestL (d.seq 2) = bo := ⟨_, rfl⟩
      rw [hbo'] at b4 hbo n1 n2 HZ0
      have HM := Lib.hid (And.intro n1 n2)
      have q0 := blk_cell b4 (sp_gen bo)
      have hbi := sp_info hbo
      clear hbo' n1 n2 hdn hkr
      by_cases hz : bo.gen = 0
      · obtain rfl : bo = sp0 := HZ0.out hz
        obtain ⟨V2, hV⟩ : ∃ V, World.setRow wr w.heap.size sp0.cells.toArray = V := ⟨_, rfl⟩
        have hBV : Below w.heap.size w V2 := by rw [← hV]; exact bSetRow hBw (Nat.le_refl _) _
        have x2 : V2.heap[w.heap.size]? = some (.cells sp0.cells.toArray 38) := by rw [← hV]; exact setRow_heap _ _ _ _ _ _ b2
        have q1 : wr.cell? ⟨W.heap.size, 0, none⟩ = some (.int .u32 0) := q0
        clear q0 hz
        go_wp2_with (first
          | (refine wpList_built rfl 38 #[] rfl (cs := sp0.cells.toArray) (by simp only [List.map_toArray, List.map_nil]; exact built_sp0) ?_)
          | (refine wpList_store_row rfl 38 (.tmp 2) (.tmp 63) rfl _ sp0.cells.toArray rfl rfl _ sp0.cells.toArray b2 hin rfl (all_oneCell_toArray (one_sp _)) ?_)
          | fail)
        try rw [hV]
        have hld := run_loadVar_row (P := Try.prog) V2 _ _ 38 _ _ _ x2 Try.underlying38 rfl hin
        refine bodyPost_ret (by simp [results, Try.results27, Act.put, asAddr, Result.andThen, hld]; try rfl) rfl ?_
        exact Ret.mk (by rw [HM.out.1, HM.out.2]; rfl) hBV
      · obtain ⟨V2, hV⟩ : ∃ V, World.setRow wr w.heap.size bo.cells.toArray = V := ⟨_, rfl⟩
        have hBV : Below w.heap.size w V2 := by rw [← hV]; exact bSetRow hBw (Nat.le_refl _) _
        have x2 : V2.heap[w.heap.size]? = some (.cells bo.cells.toArray 38) := by rw [← hV]; exact setRow_heap _ _ _ _ _ _ b2
        have g1 : ((bo.gen : Int) == 0) = false := by simp; omega
        have g2 : decide ((bo.gen : Int) = 0) = false := by simp; omega
        have HE : Hid (d.newestE = 0) := Lib.hid (by rw [HM.out.2, if_neg hz])
        have hsz2 : sp0.cells.toArray.size = bo.cells.toArray.size := by rw [List.size_toArray, List.size_toArray, hbo.len, sp0_ok.len]
        clear hz
        go_wp2_with (first
          | (refine wpList_load_row rfl 38 (.tmp 4) rfl _ rfl _ bo.cells.toArray (0, 0) _ b4 Try.underlying38 rfl hbi ?_)
          | (refine wpList_store_row rfl 38 (.tmp 2) (.tmp 64) rfl _ bo.cells.toArray rfl rfl _ sp0.cells.toArray b2 hbi hsz2 (all_oneCell_toArray (one_sp _)) ?_)
          | fail)
        try rw [hV]
        have hld := run_loadVar_row (P := Try.prog) V2 _ _ 38 _ _ _ x2 Try.underlying38 rfl hbi
        refine bodyPost_ret (by simp [results, Try.results27, Act.put, asAddr, Result.andThen, hld]; try rfl) rfl ?_
        exact Ret.mk (by rw [HM.out.1, HE.out]) hBV
end Go.Proofs.Ytnkdbkgihemjnaa
