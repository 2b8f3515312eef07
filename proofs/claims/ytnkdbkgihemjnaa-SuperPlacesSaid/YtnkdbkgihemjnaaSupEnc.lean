/- The walk over super.Encode. -/
import Derived.Test.YtnkdbkgihemjnaaSupRGood
import Derived.Test.YtnkdbkgihemjnaaConcat
import Derived.Test.YtnkdbkgihemjnaaDskRead
namespace Go.Proofs.Ytnkdbkgihemjnaa
set_option linter.unusedSimpArgs false
set_option linter.unusedVariables false
open Go.RowKit Go.ChangeShapes Go.WideShapes Go.Sort

theorem sp_size : (Try.prog.info? 38).map (·.size) = some 51 := by kernel_rfl
theorem sp_info {s : SP} (hs : s.Ok) : (Try.prog.info? 38).map (·.size) = some s.cells.toArray.size := by rw [List.size_toArray, hs.len]; exact sp_size
theorem sp_len {s : SP} (hs : s.Ok) : (Try.prog.info? 38).map (·.size) = some s.cells.length := by rw [hs.len]; exact sp_size

def head7 (s : SP) : List UInt8 := [83, u8 ((s.gen : Int) / 2 ^ 24), u8 ((s.gen : Int) / 2 ^ 16), u8 ((s.gen : Int) / 2 ^ 8), u8 (s.gen : Int), u8 s.blocks, u8 s.root]
theorem head7_cells (s : SP) : (bvs (head7 s)).toArray = #[Value.int IntKind.u8 83, Value.int IntKind.u8 ((s.gen : Int) / 16777216 % 256), Value.int IntKind.u8 ((s.gen : Int) / 65536 % 256), Value.int IntKind.u8 ((s.gen : Int) / 256 % 256), Value.int IntKind.u8 ((s.gen : Int) % 256), Value.int IntKind.u8 (s.blocks % 256), Value.int IntKind.u8 (s.root % 256)] := by
  simp only [head7, bvs, List.map_cons, List.map_nil, bv_u8]
  rfl
theorem bytes_eq (s : SP) : s.bytes = head7 s ++ s.log ++ s.used := rfl

theorem addr_add (b o j : Nat) : (⟨b, o, none⟩ : Addr).add j = ⟨b, o + j, none⟩ := by
  unfold Addr.add
  split
  · rename_i h; rw [h, Nat.add_zero]
  · rfl
theorem pad_cells {l : List UInt8} (h : l.length ≤ 128) : setMany (bvs zblk).toArray 0 (bvs l) = (bvs (pad l)).toArray := by
  rw [setMany_list _ _ _ (by rw [bvs_len, bvs_len, zblk_len]; omega)]
  congr 1
  unfold pad
  rw [bvs_append, bvs_len, List.take_zero, List.nil_append, Nat.zero_add]
  congr 1
  simp only [bvs, zblk, List.map_replicate, List.drop_replicate]

attribute [-go_sem] Builtin.append_
set_option maxHeartbeats 8000000 in
set_option maxRecDepth 100000 in
theorem encode_any {s : SP} (hs : s.Ok) (w : World) : Calls Try.prog 45 #[spv s] w (Ret w (.tuple #[bkv s.enc, .int .i64 s.encE])) := by
  have hgood := fun W => good_any hs W
  unfold spv at hgood
  unfold spv bkv
  have hci := sp_info hs
  obtain ⟨cs, hcs⟩ : ∃ cs, s.cells.toArray = cs := ⟨_, rfl⟩
  rw [hcs] at hgood hci ⊢
  go_enter Try.func45, Try.ntmps45
  go_upto_region 1 with (first | (refine wpList_new rfl blkZ rfl ?_) | fail)
  obtain ⟨W, hW⟩ : ∃ W, (w.alloc (.cells cs 38)).alloc (.cells (bvs zblk).toArray 40) = W := ⟨_, rfl⟩
  simp only [hW]
  have b1 : W.heap[w.heap.size]? = some (.cells cs 38) := by rw [← hW]; exact (Below.heap_alloc _ _ _ (by simp)).trans (heap_alloc_new _ _)
  have b2 : W.heap[w.heap.size + 1]? = some (.cells (bvs zblk).toArray 40) := by rw [← hW]; exact heap_alloc_two _ _ _
  have hB : Below w.heap.size w W := by rw [← hW]; exact ((Below.refl _ _).alloc (Nat.le_refl _) _).alloc (by simp) _
  clear hW
  refine wp_region_lit ?_
  refine wpList_load_row rfl 38 (.tmp 1) rfl _ rfl _ cs (0, 0) _ b1 Try.underlying38 rfl hci ?_
  (try simp only [Act.put, List.setIfInBounds_toArray, List.set_cons_zero, List.set_cons_succ])
  go_wp2_with fail
  refine (hgood _).mono ?_
  rintro e W1 ⟨rfl, hb1⟩
  have hz0 := (Array.getElem?_eq_some_iff.1 b2).1
  have hz1 := hb1.size
  have hB1 := hB.trans (hb1.mono hB.size)
  replace b1 := bBlk hb1 (by omega) b1
  replace b2 := bBlk hb1 hz0 b2
  have hat : SpAt W1 w.heap.size s := .of hs (by rw [hcs]; exact b1)
  clear hgood hb1 hB
  obtain ⟨t, ht⟩ : ∃ t, s.good = t := ⟨_, rfl⟩
  have HE : Hid (s.enc = if t then sealB s.bytes else zblk) := Lib.hid (by unfold SP.enc; rw [ht])
  have HF : Hid (s.encE = if t then 0 else 11) := Lib.hid (by unfold SP.encE; rw [ht])
  rw [ht]
  clear ht
  cases t
  · clear hat b1 hcs hci hs
    go_wp2_with (first
      | (refine wpList_built rfl 40 _ rfl built_blk0 ?_)
      | (refine wpList_store_row rfl 40 (.tmp 2) (.tmp 10) rfl _ (bvs zblk).toArray rfl rfl _ (bvs zblk).toArray b2 (bk_info zblk_len) rfl (all_oneCell_toArray (oneCell_bvs _)) ?_)
      | fail)
    generalize hX : World.setRow _ _ _ = X9
    have b9 : X9.heap[w.heap.size + 1]? = some (.cells (bvs zblk).toArray 40) := by rw [← hX]; exact setRow_heap _ _ _ _ _ _ b2
    have hBX : Below w.heap.size w X9 := by rw [← hX]; exact bSetRow hB1 (by omega) _
    clear hX
    have hld := run_loadVar_row (P := Try.prog) X9 _ _ 40 _ _ _ b9 Try.underlying40 rfl (bk_info zblk_len)
    refine bodyPost_ret (by simp [results, Try.results45, Act.put, asAddr, Result.andThen, hld]; try rfl) rfl ?_
    exact Ret.mk (by rw [HE.out, HF.out]; rfl) hBX
  · obtain ⟨-, c0, c1, c2, hlog, hused⟩ := hat
    go_upto_region 4 with (fail)
    clear c0 c1 c2 hci
    obtain ⟨Wa, hWa⟩ : ∃ X, W1.alloc (.cells (bvs (head7 s)).toArray 5) = X := ⟨_, rfl⟩
    rw [show #[Value.int IntKind.u8 83, Value.int IntKind.u8 ((s.gen : Int) / 16777216 % 256), Value.int IntKind.u8 ((s.gen : Int) / 65536 % 256), Value.int IntKind.u8 ((s.gen : Int) / 256 % 256), Value.int IntKind.u8 ((s.gen : Int) % 256), Value.int IntKind.u8 (s.blocks % 256), Value.int IntKind.u8 (s.root % 256)] = (bvs (head7 s)).toArray from (head7_cells s).symm, hWa]
    have hbA : Below W1.heap.size W1 Wa := by rw [← hWa]; exact (Below.refl _ _).alloc (Nat.le_refl _) _
    have bH : Wa.heap[W1.heap.size]? = some (.cells (bvs (head7 s)).toArray 5) := by rw [← hWa]; exact heap_alloc_new _ _
    have hzA : W1.heap.size < Wa.heap.size := by rw [← hWa]; simp
    have hBA := hB1.trans (hbA.mono hB1.size)
    have hw1 : w.heap.size < W1.heap.size := by have := hB1.size; omega
    replace hlog := bRange hbA hw1 hlog
    replace hused := bRange hbA hw1 hused
    replace b2 := bBlk hbA (by omega) b2
    clear hWa hbA b1 hB1
    let S : World → Prop := fun _ => True
    refine wp_region_held (S := S) (by kernel_rfl) ?_
    change wpAnyH _ _ _ _ S _ _ _ Wa.drew
    have hS0 : S Wa.drew := trivial
    refine wpAnyH_take (i := 0) (oi := ?oi_1) (v := ?v_1) ?ho_1 ?h1_1 ?h2_1 ?h3_1 ?hq_1 (Or.inl ⟨?hw_1, ?hy_1⟩) ?hs_1 ?rest_1; (case h2_1 => kernel_rfl); (case h3_1 => kernel_rfl); (case ho_1 => (simp only [List.getElem?_toArray, List.getElem?_cons_zero, List.getElem?_cons_succ]; rfl)); (case h1_1 => kernel_rfl); (case hq_1 => exact fun _ _ _ h => h); (case hw_1 => rfl); (case hy_1 => (intro w' hSw; (try simp only [S] at hSw); go_simp; (try with_reducible rfl))); (case hs_1 => assumption); (try simp only [Act.put, List.setIfInBounds_toArray, List.set_cons_zero, List.set_cons_succ])
    refine wpAnyH_take (i := 1) (oi := ?oi_2) (v := ?v_2) ?ho_2 ?h1_2 ?h2_2 ?h3_2 ?hq_2 (Or.inl ⟨?hw_2, ?hy_2⟩) ?hs_2 ?rest_2; (case h2_2 => kernel_rfl); (case h3_2 => kernel_rfl); (case ho_2 => (simp only [List.getElem?_toArray, List.getElem?_cons_zero, List.getElem?_cons_succ]; rfl)); (case h1_2 => kernel_rfl); (case hq_2 => exact fun _ _ _ h => h); (case hw_2 => rfl); (case hy_2 => (intro w' hSw; (try simp only [S] at hSw); go_simp; (try with_reducible rfl))); (case hs_2 => assumption); (try simp only [Act.put, List.setIfInBounds_toArray, List.set_cons_zero, List.set_cons_succ])
    refine wpAnyH_take (i := 2) (oi := ?oi_3) (v := ?v_3) ?ho_3 ?h1_3 ?h2_3 ?h3_3 ?hq_3 (Or.inl ⟨?hw_3, ?hy_3⟩) ?hs_3 ?rest_3; (case h2_3 => kernel_rfl); (case h3_3 => kernel_rfl); (case ho_3 => (simp only [List.getElem?_toArray, List.getElem?_cons_zero, List.getElem?_cons_succ]; rfl)); (case h1_3 => kernel_rfl); (case hq_3 => exact fun _ _ _ h => h); (case hw_3 => rfl); (case hy_3 => (intro w' hSw; (try simp only [S] at hSw); go_simp; (try with_reducible rfl))); (case hs_3 => assumption); (try simp only [Act.put, List.setIfInBounds_toArray, List.set_cons_zero, List.set_cons_succ])
    refine wpAnyH_take (i := 3) (oi := ?oi_4) (v := ?v_4) ?ho_4 ?h1_4 ?h2_4 ?h3_4 ?hq_4 (Or.inl ⟨?hw_4, ?hy_4⟩) ?hs_4 ?rest_4; (case h2_4 => kernel_rfl); (case h3_4 => kernel_rfl); (case ho_4 => (simp only [List.getElem?_toArray, List.getElem?_cons_zero, List.getElem?_cons_succ]; rfl)); (case h1_4 => kernel_rfl); (case hq_4 => exact fun _ _ _ h => h); (case hw_4 => rfl); (case hy_4 => (intro w' hSw; (try simp only [S] at hSw); go_simp; (try with_reducible rfl))); (case hs_4 => assumption); (try simp only [Act.put, List.setIfInBounds_toArray, List.set_cons_zero, List.set_cons_succ])
    refine wpAnyH_take (i := 4) (oi := ?oi_5) (v := ?v_5) ?ho_5 ?h1_5 ?h2_5 ?h3_5 ?hq_5 (Or.inl ⟨?hw_5, ?hy_5⟩) ?hs_5 ?rest_5; (case h2_5 => kernel_rfl); (case h3_5 => kernel_rfl); (case ho_5 => (simp only [List.getElem?_toArray, List.getElem?_cons_zero, List.getElem?_cons_succ]; rfl)); (case h1_5 => kernel_rfl); (case hq_5 => exact fun _ _ _ h => h); (case hw_5 => rfl); (case hy_5 => (intro w' hSw; (try simp only [S] at hSw); go_simp; (try with_reducible rfl))); (case hs_5 => assumption); (try simp only [Act.put, List.setIfInBounds_toArray, List.set_cons_zero, List.set_cons_succ])
    refine wpAnyH_ready (rs := [5]) (by kernel_rfl) (by simp) (AllReadyH.cons (o := ?oo5_10) ?hoo5_10 (fun K hK => ?steponly10) AllReadyH.nil); (case hoo5_10 => (simp only [List.getElem?_toArray, List.getElem?_cons_zero, List.getElem?_cons_succ]; rfl))
    go_simp
    obtain ⟨Wb, hWb⟩ : ∃ X, (Wa.alloc (.cells #[Value.slice (some ⟨W1.heap.size, 0, none⟩) 7 7, Value.slice (some ⟨w.heap.size, 3, none⟩) 32 32, Value.slice (some ⟨w.heap.size, 35, none⟩) 16 16] 41)).drew = X := ⟨_, rfl⟩
    rw [hWb]
    have hbB : Below Wa.heap.size Wa Wb := by rw [← hWb]; exact ((Below.refl _ _).alloc (Nat.le_refl _) _).drew
    have bL : Wb.heap[Wa.heap.size]? = some (.cells #[Value.slice (some ⟨W1.heap.size, 0, none⟩) 7 7, Value.slice (some ⟨w.heap.size, 3, none⟩) 32 32, Value.slice (some ⟨w.heap.size, 35, none⟩) 16 16] 41) := by rw [← hWb]; exact heap_alloc_new _ _
    have hzB : Wa.heap.size < Wb.heap.size := by rw [← hWb]; show _ < (Wa.alloc _).heap.size; simp
    have hBB := hBA.trans (hbB.mono hBA.size)
    replace bH := bBlk hbB hzA bH
    replace hlog := bRange hbB (by omega) hlog
    replace hused := bRange hbB (by omega) hused
    replace b2 := bBlk hbB (by omega) b2
    clear hWb hbB hBA
    refine hK.out _ _ trivial (fun _ => ?_)
    clear hK K
    (try simp only [Act.put, List.setIfInBounds_toArray, List.set_cons_zero, List.set_cons_succ])
    have hll := hs.log
    have hul := hs.used
    have hcc := concat_any [(some ⟨W1.heap.size, 0, none⟩, 7, head7 s), (some ⟨w.heap.size, 3, none⟩, 32, s.log), (some ⟨w.heap.size, 35, none⟩, 16, s.used)] (A0 := some ⟨Wa.heap.size, 0, none⟩) (c0 := 3) Wb
      (by
        have e : [(some (⟨W1.heap.size, 0, none⟩ : Addr), 7, head7 s), (some ⟨w.heap.size, 3, none⟩, 32, s.log), (some ⟨w.heap.size, 35, none⟩, 16, s.used)].map slv = [Value.slice (some ⟨W1.heap.size, 0, none⟩) 7 7, Value.slice (some ⟨w.heap.size, 3, none⟩) 32 32, Value.slice (some ⟨w.heap.size, 35, none⟩) 16 16] := by
          simp only [List.map_cons, List.map_nil, slv, hll, hul]; rfl
        rw [e]
        exact Sl.new bL rfl)
      (by
        intro x hx
        simp only [List.mem_cons, List.mem_nil_iff, or_false] at hx
        rcases hx with rfl | rfl | rfl
        · show Sl Wb _ 1 (some ⟨W1.heap.size, 0, none⟩) 7 (bvs (head7 s))
          exact Sl.new (sz := 1) (n := 7) bH (by simp [bvs_len, head7])
        · exact ⟨by simp [bvs_len], fun _ => ⟨w.heap.size, 3, rfl, by omega, hlog⟩⟩
        · exact ⟨by simp [bvs_len], fun _ => ⟨w.heap.size, 35, rfl, by omega, hused⟩⟩)
      (by simp [allB, head7, hll, hul]) (by simp)
    have eB : allB [(some (⟨W1.heap.size, 0, none⟩ : Addr), 7, head7 s), (some ⟨w.heap.size, 3, none⟩, 32, s.log), (some ⟨w.heap.size, 35, none⟩, 16, s.used)] = s.bytes := by simp [allB, bytes_eq]
    rw [eB, hs.bytes] at hcc
    have hb55 := hs.bytes
    clear bL bH hlog hused hll hul eB hcs hs
    obtain ⟨bs, hbs⟩ : ∃ l, s.bytes = l := ⟨_, rfl⟩
    rw [hbs] at hcc hb55 HE
    clear hbs
    refine wpAnyH_ready (rs := [6]) (by kernel_rfl) (by simp) (AllReadyH.cons (o := ?oo6_11) ?hoo6_11 (fun K hK => ?steponly11) AllReadyH.nil); (case hoo6_11 => (simp only [List.getElem?_toArray, List.getElem?_cons_zero, List.getElem?_cons_succ]; rfl))
    go_simp
    refine Calls.mono hcc ?_
    rintro e W3 ⟨A3, c3, rfl, hown, hb3⟩
    have hz3 := hb3.size
    have hB3 := hBB.trans (hb3.mono hBB.size)
    replace b2 := bBlk hb3 (by omega) b2
    refine hK.out _ _ trivial (fun _ => ?_)
    clear hK K
    (try simp only [Act.put, List.setIfInBounds_toArray, List.set_cons_zero, List.set_cons_succ])
    clear hcc hb3 hBB
    refine wpAnyH_take (i := 7) (oi := ?oi_6) (v := ?v_6) ?ho_6 ?h1_6 ?h2_6 ?h3_6 ?hq_6 (Or.inl ⟨?hw_6, ?hy_6⟩) ?hs_6 ?rest_6; (case h2_6 => kernel_rfl); (case h3_6 => kernel_rfl); (case ho_6 => (simp only [List.getElem?_toArray, List.getElem?_cons_zero, List.getElem?_cons_succ]; rfl)); (case h1_6 => kernel_rfl); (case hq_6 => exact fun _ _ _ h => h); (case hw_6 => rfl); (case hy_6 => (intro w' hSw; (try simp only [S] at hSw); go_simp; (try with_reducible rfl))); (case hs_6 => assumption); (try simp only [Act.put, List.setIfInBounds_toArray, List.set_cons_zero, List.set_cons_succ])
    refine wpAnyH_done (by kernel_rfl) ?_ _
    have hck := fun W h1 h2 => check_any (l := bs) (A := A3) (B := W3.heap.size) (c := c3) (by omega) W h1 h2
    have hF4 := first4_len bs
    obtain ⟨F, hFe⟩ : ∃ l, first4 bs = l := ⟨_, rfl⟩
    have HS : Hid (sealB bs = pad (bs ++ F)) := Lib.hid (by unfold sealB; rw [hFe])
    rw [hFe] at hck hF4
    rw [hb55] at hck
    clear hFe
    obtain ⟨y4, hy⟩ : ∃ z, zs 4 = z := ⟨_, rfl⟩
    have hyl : y4.length = 4 := by rw [← hy]; rfl
    have hyZ := d4Z
    rw [hy] at hyZ
    clear hy
    have hsl := Sl.of_own hown
    go_upto_region 6 with (first
      | (go_at_call 43; refine Calls.mono (hck _ (Nat.le_refl _) hsl) ?_; rintro e W4 ⟨rfl, hb4⟩)
      | (refine wpList_new rfl hyZ rfl ?_)
      | (refine wpList_store_row rfl 86 (.tmp 5) (.tmp 41) rfl _ (bvs F).toArray rfl rfl _ (bvs y4).toArray (heap_alloc_new _ _) (d4_info hF4) (by rw [List.size_toArray, List.size_toArray, bvs_len, bvs_len, hyl, hF4]) (all_oneCell_toArray (oneCell_bvs _)) ?_)
      | fail)
    obtain ⟨W5, hW5⟩ : ∃ X, (W4.alloc (.cells (bvs y4).toArray 86)).setRow W4.heap.size (bvs F).toArray = X := ⟨_, rfl⟩
    rw [hW5]
    have b5 : W5.heap[W4.heap.size]? = some (.cells (bvs F).toArray 86) := by rw [← hW5]; exact setRow_heap _ _ _ _ _ _ (heap_alloc_new _ _)
    have hb5 : Below W4.heap.size W4 W5 := by rw [← hW5]; exact bSetRow ((Below.refl _ _).alloc (Nat.le_refl _) _) (Nat.le_refl _) _
    have hz4 := hb4.size
    have hz5 : W4.heap.size < W5.heap.size := (Array.getElem?_eq_some_iff.1 b5).1
    have hB5 := hB3.trans ((hb4.mono hB3.size).trans (hb5.mono (by have := hB3.size; omega)))
    replace hown := own_below (own_below hown hb4) hb5
    replace b2 := bBlk hb5 (by omega) (bBlk hb4 (by omega) b2)
    clear hW5 hb4 hb5 hck hsl hyZ hB3
    go_upto_region 7 with (first
      | (refine wpList_new rfl blkZ rfl ?_)
      | fail)
    obtain ⟨W6, hW6⟩ : ∃ X, (W5.alloc (.cells (bvs zblk).toArray 40)).drew = X := ⟨_, rfl⟩
    have b6 : W6.heap[W5.heap.size]? = some (.cells (bvs zblk).toArray 40) := by rw [← hW6]; exact heap_alloc_new _ _
    have hb6 : Below W5.heap.size W5 W6 := by rw [← hW6]; exact ((Below.refl _ _).alloc (Nat.le_refl _) _).drew
    have hz6 : W5.heap.size < W6.heap.size := (Array.getElem?_eq_some_iff.1 b6).1
    have hB6 := hB5.trans (hb6.mono hB5.size)
    have hltO : ∀ k, (Value.slice A3 55 c3).ownBlock = some k → k < W5.heap.size := fun k hk => (hown.lt k hk).2
    have hgeO : ∀ k, (Value.slice A3 55 c3).ownBlock = some k → Wb.heap.size ≤ k := fun k hk => (hown.lt k hk).1
    replace hown := own_below hown hb6
    replace b2 := bBlk hb6 (by omega) b2
    replace b5 := bBlk hb6 hz5 b5
    clear hb6 hB5
    have hx4 : Sl W6 W6.heap.size 1 (some ⟨W4.heap.size, 0, none⟩) 4 (bvs F) := by
      have := Sl.new (sz := 1) (n := 4) b5 (by simp [bvs_len, hF4])
      exact this
    obtain ⟨A7, c7, W7, hrun, hrow7, hg7, hat7⟩ := run_app (P := Try.prog) W6 (ty := 41) (t := 41) Try.underlying41 elemC hown hx4 (c := 4) (oneCell_bvs _) (by simp only [maxLen]; omega) (by omega) (by omega)
    rw [← bvs_append] at hrow7
    have b27 : W7.heap[w.heap.size + 1]? = some (.cells (bvs zblk).toArray 40) := (hg7.block _ (by omega) (fun e => by have := hgeO _ e.symm; omega)).trans b2
    have b67 : W7.heap[W5.heap.size]? = some (.cells (bvs zblk).toArray 40) := (hg7.block _ hz6 (fun e => by have := hltO _ e.symm; omega)).trans b6
    have hz7 : W6.heap.size ≤ W7.heap.size := hg7.size
    have hB7 : Below w.heap.size w W7 := hB6.trans ((Below.refl _ _).grown hg7 (by omega) (fun j hj => by have := hgeO _ hj; omega))
    have hcp : ∃ ad, A7 = some ad ∧ ∀ j v, (bvs (bs ++ F))[j]? = some v → W7.cell? (ad.add j) = some v := by
      rcases hrow7.2 with ⟨_, e⟩ | ⟨g, cap, cur, e, h1, h2, h3, h4, h5, h6⟩
      · omega
      · simp only [Value.slice.injEq] at e
        obtain ⟨rfl, -, rfl⟩ := e
        refine ⟨⟨g, 0, none⟩, rfl, fun j v hj => ?_⟩
        rw [addr_add, Nat.zero_add]
        refine blk_cell h2 ?_
        rw [← h6, List.getElem?_take] at hj
        split at hj
        · simpa using hj
        · cases hj
    obtain ⟨ad, rfl, hcp⟩ := hcp
    have h59 : (bvs (bs ++ F)).length = 59 := by rw [bvs_len, List.length_append, hb55, hF4]
    have hcopy := fun ty => run_copy_cells (P := Try.prog) W7 41 41 ty 5 W5.heap.size 0 128 128 ad 59 c7 (bvs (bs ++ F)) Try.underlying41 (by kernel_rfl) (by rw [h59]; rfl) hcp
      (fun j hj => ((there_blk b67 (o := 0) (n := 59) (by rw [List.size_toArray, bvs_len, zblk_len]; omega)) j (by omega)).1) (fun j hj => blk_frozen b67 _) (oneCell_bvs _)
    rw [h59] at hcopy
    obtain ⟨W8, hW8⟩ : ∃ X, W7.setCells W5.heap.size 0 (bvs (bs ++ F)) = X := ⟨_, rfl⟩
    have b8 : W8.heap[W5.heap.size]? = some (.cells (bvs (pad (bs ++ F))).toArray 40) := by
      rw [← hW8]
      have := blk_sets (bvs (bs ++ F)) 0 b67
      rw [pad_cells (by rw [List.length_append, hb55, hF4]; omega)] at this
      exact this
    have b28 : W8.heap[w.heap.size + 1]? = some (.cells (bvs zblk).toArray 40) := by rw [← hW8]; exact (sets_far _ _ _ _ _ (by omega)).trans b27
    have hB8 : Below w.heap.size w W8 := by
      rw [← hW8]
      exact hB7.trans ((but_sets (X := fun k => k = W5.heap.size) _ _ _ (But.refl _ _ _) rfl).below (by have := hB7.size; omega) (fun k e => by omega))
    simp only [hW8] at hcopy
    have hpl : (pad (bs ++ F)).length = 128 := pad_len (by rw [List.length_append, hb55, hF4]; omega)
    obtain ⟨P8, hP8⟩ : ∃ l, pad (bs ++ F) = l := ⟨_, rfl⟩
    rw [hP8] at b8 hpl HS
    have R := Lib.hid (And.intro b8 (And.intro b28 hB8))
    clear hP8 hW8 b8 b28 hB8 b27 b67 hB7 hcp h59 hrow7 hg7 hat7 hx4 hown b5 b6 b2 hltO hgeO hB6 hz0 hz1 hz7
    let S : World → Prop := fun _ => True
    refine wp_region_held (S := S) (by kernel_rfl) ?_
    change wpAnyH _ _ _ _ S _ _ _ (W5.alloc (.cells (bvs zblk).toArray 40)).drew
    rw [hW6]
    clear hW6
    have hS0 : S W6 := trivial
    refine wpAnyH_take (i := 0) (oi := ?oi_7) (v := ?v_7) ?ho_7 ?h1_7 ?h2_7 ?h3_7 ?hq_7 (Or.inl ⟨?hw_7, ?hy_7⟩) ?hs_7 ?rest_7; (case h2_7 => kernel_rfl); (case h3_7 => kernel_rfl); (case ho_7 => (simp only [List.getElem?_toArray, List.getElem?_cons_zero, List.getElem?_cons_succ]; rfl)); (case h1_7 => kernel_rfl); (case hq_7 => exact fun _ _ _ h => h); (case hw_7 => rfl); (case hy_7 => (intro w' hSw; (try simp only [S] at hSw); go_simp; (try with_reducible rfl))); (case hs_7 => assumption); (try simp only [Act.put, List.setIfInBounds_toArray, List.set_cons_zero, List.set_cons_succ])
    refine wpAnyH_take (i := 1) (oi := ?oi_8) (v := ?v_8) ?ho_8 ?h1_8 ?h2_8 ?h3_8 ?hq_8 (Or.inl ⟨?hw_8, ?hy_8⟩) ?hs_8 ?rest_8; (case h2_8 => kernel_rfl); (case h3_8 => kernel_rfl); (case ho_8 => (simp only [List.getElem?_toArray, List.getElem?_cons_zero, List.getElem?_cons_succ]; rfl)); (case h1_8 => kernel_rfl); (case hq_8 => exact fun _ _ _ h => h); (case hw_8 => rfl); (case hy_8 => (intro w' hSw; (try simp only [S] at hSw); go_simp; (try with_reducible rfl))); (case hs_8 => assumption); (try simp only [Act.put, List.setIfInBounds_toArray, List.set_cons_zero, List.set_cons_succ])
    refine wpAnyH_take (i := 2) (oi := ?oi_9) (v := ?v_9) ?ho_9 ?h1_9 ?h2_9 ?h3_9 ?hq_9 (Or.inl ⟨?hw_9, ?hy_9⟩) ?hs_9 ?rest_9; (case h2_9 => kernel_rfl); (case h3_9 => kernel_rfl); (case ho_9 => (simp only [List.getElem?_toArray, List.getElem?_cons_zero, List.getElem?_cons_succ]; rfl)); (case h1_9 => kernel_rfl); (case hq_9 => exact fun _ _ _ h => h); (case hw_9 => rfl); (case hy_9 => (intro w' hSw; (try simp only [S] at hSw); go_simp; (try with_reducible rfl))); (case hs_9 => assumption); (try simp only [Act.put, List.setIfInBounds_toArray, List.set_cons_zero, List.set_cons_succ])
    refine wpAnyH_ready (rs := [3]) (by kernel_rfl) (by simp) (AllReadyH.cons (o := ?oo3_12) ?hoo3_12 (fun K hK => ?steponly12) AllReadyH.nil); (case hoo3_12 => (simp only [List.getElem?_toArray, List.getElem?_cons_zero, List.getElem?_cons_succ]; rfl))
    go_simp
    refine hK.out _ _ trivial (fun _ => ?_)
    clear hK K
    (try simp only [Act.put, List.setIfInBounds_toArray, List.set_cons_zero, List.set_cons_succ])
    refine wpAnyH_ready (rs := [4]) (by kernel_rfl) (by simp) (AllReadyH.cons (o := ?oo4_13) ?hoo4_13 (fun K hK => ?steponly13) AllReadyH.nil); (case hoo4_13 => (simp only [List.getElem?_toArray, List.getElem?_cons_zero, List.getElem?_cons_succ]; rfl))
    go_simp
    refine hK.out _ _ trivial (fun _ => ?_)
    clear hK K
    (try simp only [Act.put, List.setIfInBounds_toArray, List.set_cons_zero, List.set_cons_succ])
    refine wpAnyH_done (by kernel_rfl) ?_ _
    go_upto_region 8 with (fail)
    refine wp_region_lit ?_
    refine wpList_load_row rfl 40 (.tmp 6) rfl _ rfl _ (bvs P8).toArray (0, 0) _ R.out.1 Try.underlying40 rfl (bk_info hpl) ?_
    (try simp only [Act.put, List.setIfInBounds_toArray, List.set_cons_zero, List.set_cons_succ])
    refine wpList_store_row rfl 40 (.tmp 2) (.tmp 47) rfl _ (bvs P8).toArray rfl rfl _ (bvs zblk).toArray R.out.2.1 (bk_info hpl) (blk_sizes zblk_len hpl) (all_oneCell_toArray (oneCell_bvs _)) ?_
    (try simp only [Act.put, List.setIfInBounds_toArray, List.set_cons_zero, List.set_cons_succ])
    go_wp2_with fail
    generalize hX : World.setRow _ _ _ = X9
    have b9 : X9.heap[w.heap.size + 1]? = some (.cells (bvs P8).toArray 40) := by rw [← hX]; exact setRow_heap _ _ _ _ _ _ R.out.2.1
    have hBX : Below w.heap.size w X9 := by rw [← hX]; exact bSetRow R.out.2.2 (by omega) _
    clear hX
    have hld := run_loadVar_row (P := Try.prog) X9 _ _ 40 _ _ _ b9 Try.underlying40 rfl (bk_info hpl)
    refine bodyPost_ret (by simp [results, Try.results45, Act.put, asAddr, Result.andThen, hld]; try rfl) rfl ?_
    exact Ret.mk (by rw [HE.out, HF.out]; simp only [if_true, HS.out]) hBX
end Go.Proofs.Ytnkdbkgihemjnaa
