/- The walk over the reference's Encode. -/
import Derived.Test.YthmjkgpfnpdddaaLfEnc
import Derived.Test.YthmjkgpfnpdddaaLfRef1
import Derived.Test.YthmjkgpfnpdddaaLfRSeal
namespace Go.Proofs.Ythmjkgpfnpdddaa
set_option linter.unusedSimpArgs false
set_option linter.unusedVariables false
open Go.RowKit Go.ChangeShapes Go.WideShapes Go.Sort

attribute [-go_sem] Builtin.append_
set_option maxHeartbeats 16000000 in
set_option maxRecDepth 100000 in
theorem rlenc_any {A : Option Addr} {n c : Nat} {l : List EN} (w : World) (h : LfAt w w.heap.size A n c l) (hn6 : n ≤ 1000000) : Calls Try.prog 25 #[.slice A n c] w (Ret w (.tuple #[bkv (lfEnc l), .int .i64 (erE (goodE l))])) := by
  have hgd := fun W (k : LfAt W W.heap.size A n c l) => rgood_any W k (by omega)
  have HS := Lib.hid h
  have HN := Lib.hid h.len
  clear h
  unfold bkv
  go_enter Try.func25, Try.ntmps25
  obtain ⟨zb, hzb⟩ : ∃ q, (bvs zblk).toArray = q := ⟨_, rfl⟩
  have hbz := blkZ
  have hb0 := built_blk0
  have hzs : zb.size = 128 := by rw [← hzb, List.size_toArray, bvs_len, zblk_len]
  have hzi : (Try.prog.info? 40).map (·.size) = some zb.size := by rw [hzs]; exact bk_size
  have hz1 : (zb.all fun x => x.oneCell') = true := by rw [← hzb]; exact all_oneCell_toArray (oneCell_bvs _)
  rw [hzb] at hbz hb0
  have HZ := Lib.hid hzb
  clear hzb
  go_upto_region 1 with (first | (refine wpList_new rfl hbz rfl ?_) | fail)
  obtain ⟨W, hW⟩ : ∃ q, w.alloc (.cells zb 40) = q := ⟨_, rfl⟩
  have a2 : W.heap[w.heap.size]? = some (.cells zb 40) := by rw [← hW]; exact heap_alloc_new _ _
  have hB : Below w.heap.size w W := by rw [← hW]; exact (Below.refl _ _).alloc (Nat.le_refl _) _
  try rw [hW]
  clear hW
  have hgd' := hgd W (HS.out.nxt hB)
  have l2 := (Array.getElem?_eq_some_iff.1 a2).1
  have HA := Lib.hid (And.intro a2 hB)
  clear a2 hB hgd
  go_wp2_with fail
  refine Calls.mono hgd' ?_
  rintro e V ⟨rfl, hbV⟩
  have a2 := bBlk hbV l2 HA.out.1
  have hB := bNext HA.out.2 hbV
  have hl := HS.out.nxt hB
  have l3 := (Array.getElem?_eq_some_iff.1 a2).1
  clear HA hgd' hbV l2
  cases hg : goodE l
  · have e1 : lfEnc l = zblk := by unfold lfEnc; rw [hg]; rfl
    have HE := Lib.hid (And.intro e1 hB)
    have HG := Lib.hid hg
    clear e1 hB hl hg
    go_wp2_with (first
      | (refine wpList_built rfl 40 #[] rfl (cs := zb) (by simp only [List.map_toArray, List.map_nil]; exact hb0) ?_)
      | (refine wpList_store_row rfl 40 (.tmp 2) (.tmp 9) rfl _ zb rfl rfl _ zb a2 hzi rfl hz1 ?_)
      | fail)
    generalize hX : World.setRow _ _ _ = X9
    have b9 : X9.heap[w.heap.size]? = some (.cells zb 40) := by rw [← hX]; exact setRow_heap _ _ _ _ _ _ a2
    have hBX : Below w.heap.size w X9 := by rw [← hX]; exact bSetRow HE.out.2 (Nat.le_refl _) _
    clear hX
    have hld := run_loadVar_row (P := Try.prog) X9 _ _ 40 _ _ _ b9 Try.underlying40 rfl hzi
    refine bodyPost_ret (by simp [results, Try.results25, Act.put, asAddr, Result.andThen, hld]; try rfl) rfl ?_
    exact Ret.mk (by rw [HE.out.1, HZ.out, HG.out]; rfl) hBX
  · obtain ⟨⟨n1, n3⟩, hto⟩ := goodE_iff.1 hg
    rw [HN.out] at n1 n3 hto
    have HG := Lib.hid (And.intro hg hto)
    have hoc : (bvs [76, u8 (n : Int)]).toArray = #[Value.int .u8 76, .int .u8 (n : Int)] := by
      simp only [bvs, List.map_cons, List.map_nil, bv_u8]
      rw [Int.emod_eq_of_lt (by omega) (by omega)]
      rfl
    have H1 := Lib.hid (And.intro a2 (And.intro hB hl))
    clear hg hto a2 hB hl
    go_upto_region 4 with (fail)
    obtain ⟨W1, hW1⟩ : ∃ q, V.alloc (.cells (bvs [76, u8 (n : Int)]).toArray 5) = q := ⟨_, rfl⟩
    have b1 : W1.heap[V.heap.size]? = some (.cells (bvs [76, u8 (n : Int)]).toArray 5) := by rw [← hW1]; exact heap_alloc_new _ _
    have hbW1 : Below V.heap.size V W1 := by rw [← hW1]; exact (Below.refl _ _).alloc (Nat.le_refl _) _
    rw [hoc] at hW1
    try rw [hW1]
    have own0 := own_lit (W := W1) (base := V.heap.size) (n := 2) (cs := bvs [76, u8 (n : Int)]) (t := 5) (Nat.le_refl _) b1 (by rw [bvs_len]; rfl) (by simp [maxLen])
    have hwV : w.heap.size < V.heap.size := l3
    clear hW1 b1 hoc
    go_wp2_with fail
    go_loopw [4, 5] (fun sb si wr => ∃ k : Nat, k ≤ n ∧ si = .int .i64 k ∧ wr.ownsRow V.heap.size 5 1 sb (2 + k * 36) (bvs (lfTo n l k)) ∧ Below V.heap.size V wr) (fun _ i _ => n - (intOf i).toNat)
    case atStart => exact ⟨0, by omega, rfl, by rw [lfTo_zero]; exact own0, hbW1⟩
    case round =>
      clear own0 hbW1
      obtain ⟨k, hk, rfl, hown, hbr⟩ := hrel
      obtain ⟨A4, c4, rfl, -⟩ := own_form hown
      by_cases hlt : k < n
      · obtain ⟨x, hx⟩ : ∃ x, l[k]? = some x := ⟨_, List.getElem?_eq_getElem (by rw [HN.out]; exact hlt)⟩
        have hxo := H1.out.2.2.ok x (List.mem_of_getElem? hx)
        obtain ⟨b, o, rfl, hbB, hxr⟩ := H1.out.2.2.entry hx
        have hzr := hbr.size
        replace hxr := bRange hbr (by omega) hxr
        have hx1 : x.one = true := by
          obtain ⟨y, ey, hy, -⟩ := HG.out.2 k hlt
          rw [hx] at ey
          injection ey with ey
          rw [ey]; exact hy
        have ht4 := tail4 x
        obtain ⟨p1, p2, p3, p4, p5, p6, p7⟩ := (EN.one_iff x).1 hx1
        have hls := lfTo_succ (n := n) hx
        have hi1 : (k : Int) < (n : Int) := by omega
        obtain ⟨m, hm⟩ : ∃ m, 2 + k * 36 = m := ⟨_, rfl⟩
        have hmb : m ≤ 200 := by omega
        have hkl := hxo.key
        obtain ⟨rk, c32, c33, c34⟩ := en_range hxo hxr
        have hbV : b < V.heap.size := by omega
        have hbl : b < wr.heap.size := by omega
        rw [hm] at hown
        rw [hm]
        have HX := Lib.hid (And.intro hown (And.intro hbr (And.intro hls hm)))
        clear hown hbr hxo hx hx1 hls hm hxr
        go_upto_region 7 with (fail)
        (try simp only [Act.put, List.setIfInBounds_toArray, List.set_cons_zero, List.set_cons_succ])
        have hxK : Sl wr wr.heap.size 1 (some ⟨b, o + k * 35, none⟩) 32 (bvs x.key) := ⟨by rw [bvs_len, hkl], fun _ => ⟨b, o + k * 35, rfl, hbl, rk⟩⟩
        obtain ⟨tl, htl⟩ : ∃ q, [u8 x.place, u8 x.blocks, u8 (x.refs / 256), u8 x.refs] = q := ⟨_, rfl⟩
        have htll : tl.length = 4 := by rw [← htl]; rfl
        rw [htl] at ht4
        have HTL := Lib.hid htl
        clear htl
        let S : World → Prop := fun w' => w'.cell? ⟨b, o + k * 35 + 32, none⟩ = some (.int .i64 x.place) ∧ w'.cell? ⟨b, o + k * 35 + 33, none⟩ = some (.int .i64 x.blocks) ∧ w'.cell? ⟨b, o + k * 35 + 34, none⟩ = some (.int .i64 x.refs)
        have hS0 : S wr.drew := ⟨c32, c33, c34⟩
        have hSS : ∀ u u' : World, Below V.heap.size u u' → S u → S u' := fun u u' q h => ⟨(q.cell (p := ⟨b, o + k * 35 + 32, none⟩) hbV).trans h.1, (q.cell (p := ⟨b, o + k * 35 + 33, none⟩) hbV).trans h.2.1, (q.cell (p := ⟨b, o + k * 35 + 34, none⟩) hbV).trans h.2.2⟩
        clear c32 c33 c34 rk
        obtain ⟨tl2, ht4'⟩ : ∃ q, #[Value.int .u8 (IntKind.u8.wrap x.place), .int .u8 (IntKind.u8.wrap x.blocks), .int .u8 (IntKind.u8.wrap (x.refs / 256)), .int .u8 (IntKind.u8.wrap x.refs)] = q := ⟨_, rfl⟩
        rw [ht4'] at ht4
        refine wp_region_held (S := S) (by kernel_rfl) ?_
        change wpAnyH _ _ _ _ S _ _ _ wr.drew
        refine wpAnyH_take (i := 0) (oi := ?oi_1) (v := ?v_1) ?ho_1 ?h1_1 ?h2_1 ?h3_1 ?hq_1 (Or.inl ⟨?hw_1, ?hy_1⟩) ?hs_1 ?rest_1; (case h2_1 => kernel_rfl); (case h3_1 => kernel_rfl); (case ho_1 => (simp only [List.getElem?_toArray, List.getElem?_cons_zero, List.getElem?_cons_succ]; rfl)); (case h1_1 => kernel_rfl); (case hq_1 => exact fun _ _ _ h => h); (case hw_1 => rfl); (case hy_1 => (intro w' hSw; (try simp only [S] at hSw); go_simp; (try with_reducible rfl))); (case hs_1 => assumption); (try simp only [Act.put, List.setIfInBounds_toArray, List.set_cons_zero, List.set_cons_succ])
        refine wpAnyH_take (i := 1) (oi := ?oi_2) (v := ?v_2) ?ho_2 ?h1_2 ?h2_2 ?h3_2 ?hq_2 (Or.inl ⟨?hw_2, ?hy_2⟩) ?hs_2 ?rest_2; (case h2_2 => kernel_rfl); (case h3_2 => kernel_rfl); (case ho_2 => (simp only [List.getElem?_toArray, List.getElem?_cons_zero, List.getElem?_cons_succ]; rfl)); (case h1_2 => kernel_rfl); (case hq_2 => exact fun _ _ _ h => h); (case hw_2 => rfl); (case hy_2 => (intro w' hSw; (try simp only [S] at hSw); go_simp; (try with_reducible rfl))); (case hs_2 => assumption); (try simp only [Act.put, List.setIfInBounds_toArray, List.set_cons_zero, List.set_cons_succ])
        refine wpAnyH_take (i := 2) (oi := ?oi_3) (v := ?v_3) ?ho_3 ?h1_3 ?h2_3 ?h3_3 ?hq_3 (Or.inl ⟨?hw_3, ?hy_3⟩) ?hs_3 ?rest_3; (case h2_3 => kernel_rfl); (case h3_3 => kernel_rfl); (case ho_3 => (simp only [List.getElem?_toArray, List.getElem?_cons_zero, List.getElem?_cons_succ]; rfl)); (case h1_3 => kernel_rfl); (case hq_3 => exact fun _ _ _ h => h); (case hw_3 => rfl); (case hy_3 => (intro w' hSw; (try simp only [S] at hSw); go_simp; (try with_reducible rfl))); (case hs_3 => assumption); (try simp only [Act.put, List.setIfInBounds_toArray, List.set_cons_zero, List.set_cons_succ])
        refine wpAnyH_take (i := 3) (oi := ?oi_4) (v := ?v_4) ?ho_4 ?h1_4 ?h2_4 ?h3_4 ?hq_4 (Or.inl ⟨?hw_4, ?hy_4⟩) ?hs_4 ?rest_4; (case h2_4 => kernel_rfl); (case h3_4 => kernel_rfl); (case ho_4 => (simp only [List.getElem?_toArray, List.getElem?_cons_zero, List.getElem?_cons_succ]; rfl)); (case h1_4 => kernel_rfl); (case hq_4 => exact fun _ _ _ h => h); (case hw_4 => rfl); (case hy_4 => (intro w' hSw; (try simp only [S] at hSw); go_simp; (try with_reducible rfl))); (case hs_4 => assumption); (try simp only [Act.put, List.setIfInBounds_toArray, List.set_cons_zero, List.set_cons_succ])
        refine wpAnyH_take (i := 4) (oi := ?oi_5) (v := ?v_5) ?ho_5 ?h1_5 ?h2_5 ?h3_5 ?hq_5 (Or.inl ⟨?hw_5, ?hy_5⟩) ?hs_5 ?rest_5; (case h2_5 => kernel_rfl); (case h3_5 => kernel_rfl); (case ho_5 => (simp only [List.getElem?_toArray, List.getElem?_cons_zero, List.getElem?_cons_succ]; rfl)); (case h1_5 => kernel_rfl); (case hq_5 => exact fun _ _ _ h => h); (case hw_5 => rfl); (case hy_5 => (intro w' hSw; (try simp only [S] at hSw); go_simp; (try with_reducible rfl))); (case hs_5 => assumption); (try simp only [Act.put, List.setIfInBounds_toArray, List.set_cons_zero, List.set_cons_succ])
        refine wpAnyH_take (i := 5) (oi := ?oi_6) (v := ?v_6) ?ho_6 ?h1_6 ?h2_6 ?h3_6 ?hq_6 (Or.inl ⟨?hw_6, ?hy_6⟩) ?hs_6 ?rest_6; (case h2_6 => kernel_rfl); (case h3_6 => kernel_rfl); (case ho_6 => (simp only [List.getElem?_toArray, List.getElem?_cons_zero, List.getElem?_cons_succ]; rfl)); (case h1_6 => kernel_rfl); (case hq_6 => exact fun _ _ _ h => h); (case hw_6 => rfl); (case hy_6 => (intro w' hSw; (try simp only [S] at hSw); go_simp; (try with_reducible rfl))); (case hs_6 => assumption); (try simp only [Act.put, List.setIfInBounds_toArray, List.set_cons_zero, List.set_cons_succ])
        refine wpAnyH_take (i := 7) (oi := ?oi_7) (v := ?v_7) ?ho_7 ?h1_7 ?h2_7 ?h3_7 ?hq_7 (Or.inl ⟨?hw_7, ?hy_7⟩) ?hs_7 ?rest_7; (case h2_7 => kernel_rfl); (case h3_7 => kernel_rfl); (case ho_7 => (simp only [List.getElem?_toArray, List.getElem?_cons_zero, List.getElem?_cons_succ]; rfl)); (case h1_7 => kernel_rfl); (case hq_7 => exact fun _ _ _ h => h); (case hw_7 => rfl); (case hy_7 => (intro w' hSw; (try simp only [S] at hSw); go_simp; (try with_reducible rfl))); (case hs_7 => assumption); (try simp only [Act.put, List.setIfInBounds_toArray, List.set_cons_zero, List.set_cons_succ])
        refine wpAnyH_take (i := 8) (oi := ?oi_8) (v := ?v_8) ?ho_8 ?h1_8 ?h2_8 ?h3_8 ?hq_8 (Or.inl ⟨?hw_8, ?hy_8⟩) ?hs_8 ?rest_8; (case h2_8 => kernel_rfl); (case h3_8 => kernel_rfl); (case ho_8 => (simp only [List.getElem?_toArray, List.getElem?_cons_zero, List.getElem?_cons_succ]; rfl)); (case h1_8 => kernel_rfl); (case hq_8 => exact fun _ _ _ h => h); (case hw_8 => rfl); (case hy_8 => (intro w' hSw; (try simp only [S] at hSw); go_simp; (try with_reducible rfl))); (case hs_8 => assumption); (try simp only [Act.put, List.setIfInBounds_toArray, List.set_cons_zero, List.set_cons_succ])
        refine wpAnyH_take (i := 9) (oi := ?oi_9) (v := ?v_9) ?ho_9 ?h1_9 ?h2_9 ?h3_9 ?hq_9 (Or.inl ⟨?hw_9, ?hy_9⟩) ?hs_9 ?rest_9; (case h2_9 => kernel_rfl); (case h3_9 => kernel_rfl); (case ho_9 => (simp only [List.getElem?_toArray, List.getElem?_cons_zero, List.getElem?_cons_succ]; rfl)); (case h1_9 => kernel_rfl); (case hq_9 => exact fun _ _ _ h => h); (case hw_9 => rfl); (case hy_9 => (intro w' hSw; (try simp only [S] at hSw); go_simp; (try with_reducible rfl))); (case hs_9 => assumption); (try simp only [Act.put, List.setIfInBounds_toArray, List.set_cons_zero, List.set_cons_succ])
        refine wpAnyH_take (i := 10) (oi := ?oi_10) (v := ?v_10) ?ho_10 ?h1_10 ?h2_10 ?h3_10 ?hq_10 (Or.inl ⟨?hw_10, ?hy_10⟩) ?hs_10 ?rest_10; (case h2_10 => kernel_rfl); (case h3_10 => kernel_rfl); (case ho_10 => (simp only [List.getElem?_toArray, List.getElem?_cons_zero, List.getElem?_cons_succ]; rfl)); (case h1_10 => kernel_rfl); (case hq_10 => exact fun _ _ _ h => h); (case hw_10 => rfl); (case hy_10 => (intro w' hSw; (try simp only [S] at hSw); go_simp; (try with_reducible rfl))); (case hs_10 => assumption); (try simp only [Act.put, List.setIfInBounds_toArray, List.set_cons_zero, List.set_cons_succ])
        refine wpAnyH_take (i := 11) (oi := ?oi_30) (v := ?v_30) ?ho_30 ?h1_30 ?h2_30 ?h3_30 ?hq_30 (Or.inl ⟨?hw_30, ?hy_30⟩) ?hs_30 ?rest_30; (case h2_30 => kernel_rfl); (case h3_30 => kernel_rfl); (case ho_30 => (simp only [List.getElem?_toArray, List.getElem?_cons_zero, List.getElem?_cons_succ]; rfl)); (case h1_30 => kernel_rfl); (case hq_30 => exact fun _ _ _ h => h); (case hw_30 => rfl); (case hy_30 => (intro w' hSw; have hq := hSw.1; go_simp; (try with_reducible rfl))); (case hs_30 => assumption); (try simp only [Act.put, List.setIfInBounds_toArray, List.set_cons_zero, List.set_cons_succ])
        refine wpAnyH_take (i := 12) (oi := ?oi_11) (v := ?v_11) ?ho_11 ?h1_11 ?h2_11 ?h3_11 ?hq_11 (Or.inl ⟨?hw_11, ?hy_11⟩) ?hs_11 ?rest_11; (case h2_11 => kernel_rfl); (case h3_11 => kernel_rfl); (case ho_11 => (simp only [List.getElem?_toArray, List.getElem?_cons_zero, List.getElem?_cons_succ]; rfl)); (case h1_11 => kernel_rfl); (case hq_11 => exact fun _ _ _ h => h); (case hw_11 => rfl); (case hy_11 => (intro w' hSw; (try simp only [S] at hSw); go_simp; (try with_reducible rfl))); (case hs_11 => assumption); (try simp only [Act.put, List.setIfInBounds_toArray, List.set_cons_zero, List.set_cons_succ])
        refine wpAnyH_take (i := 13) (oi := ?oi_12) (v := ?v_12) ?ho_12 ?h1_12 ?h2_12 ?h3_12 ?hq_12 (Or.inl ⟨?hw_12, ?hy_12⟩) ?hs_12 ?rest_12; (case h2_12 => kernel_rfl); (case h3_12 => kernel_rfl); (case ho_12 => (simp only [List.getElem?_toArray, List.getElem?_cons_zero, List.getElem?_cons_succ]; rfl)); (case h1_12 => kernel_rfl); (case hq_12 => exact fun _ _ _ h => h); (case hw_12 => rfl); (case hy_12 => (intro w' hSw; (try simp only [S] at hSw); go_simp; (try with_reducible rfl))); (case hs_12 => assumption); (try simp only [Act.put, List.setIfInBounds_toArray, List.set_cons_zero, List.set_cons_succ])
        refine wpAnyH_take (i := 14) (oi := ?oi_13) (v := ?v_13) ?ho_13 ?h1_13 ?h2_13 ?h3_13 ?hq_13 (Or.inl ⟨?hw_13, ?hy_13⟩) ?hs_13 ?rest_13; (case h2_13 => kernel_rfl); (case h3_13 => kernel_rfl); (case ho_13 => (simp only [List.getElem?_toArray, List.getElem?_cons_zero, List.getElem?_cons_succ]; rfl)); (case h1_13 => kernel_rfl); (case hq_13 => exact fun _ _ _ h => h); (case hw_13 => rfl); (case hy_13 => (intro w' hSw; (try simp only [S] at hSw); go_simp; (try with_reducible rfl))); (case hs_13 => assumption); (try simp only [Act.put, List.setIfInBounds_toArray, List.set_cons_zero, List.set_cons_succ])
        refine wpAnyH_take (i := 15) (oi := ?oi_14) (v := ?v_14) ?ho_14 ?h1_14 ?h2_14 ?h3_14 ?hq_14 (Or.inl ⟨?hw_14, ?hy_14⟩) ?hs_14 ?rest_14; (case h2_14 => kernel_rfl); (case h3_14 => kernel_rfl); (case ho_14 => (simp only [List.getElem?_toArray, List.getElem?_cons_zero, List.getElem?_cons_succ]; rfl)); (case h1_14 => kernel_rfl); (case hq_14 => exact fun _ _ _ h => h); (case hw_14 => rfl); (case hy_14 => (intro w' hSw; (try simp only [S] at hSw); go_simp; (try with_reducible rfl))); (case hs_14 => assumption); (try simp only [Act.put, List.setIfInBounds_toArray, List.set_cons_zero, List.set_cons_succ])
        refine wpAnyH_take (i := 16) (oi := ?oi_15) (v := ?v_15) ?ho_15 ?h1_15 ?h2_15 ?h3_15 ?hq_15 (Or.inl ⟨?hw_15, ?hy_15⟩) ?hs_15 ?rest_15; (case h2_15 => kernel_rfl); (case h3_15 => kernel_rfl); (case ho_15 => (simp only [List.getElem?_toArray, List.getElem?_cons_zero, List.getElem?_cons_succ]; rfl)); (case h1_15 => kernel_rfl); (case hq_15 => exact fun _ _ _ h => h); (case hw_15 => rfl); (case hy_15 => (intro w' hSw; (try simp only [S] at hSw); go_simp; (try with_reducible rfl))); (case hs_15 => assumption); (try simp only [Act.put, List.setIfInBounds_toArray, List.set_cons_zero, List.set_cons_succ])
        refine wpAnyH_take (i := 17) (oi := ?oi_31) (v := ?v_31) ?ho_31 ?h1_31 ?h2_31 ?h3_31 ?hq_31 (Or.inl ⟨?hw_31, ?hy_31⟩) ?hs_31 ?rest_31; (case h2_31 => kernel_rfl); (case h3_31 => kernel_rfl); (case ho_31 => (simp only [List.getElem?_toArray, List.getElem?_cons_zero, List.getElem?_cons_succ]; rfl)); (case h1_31 => kernel_rfl); (case hq_31 => exact fun _ _ _ h => h); (case hw_31 => rfl); (case hy_31 => (intro w' hSw; have hq := hSw.2.1; go_simp; (try with_reducible rfl))); (case hs_31 => assumption); (try simp only [Act.put, List.setIfInBounds_toArray, List.set_cons_zero, List.set_cons_succ])
        refine wpAnyH_take (i := 18) (oi := ?oi_16) (v := ?v_16) ?ho_16 ?h1_16 ?h2_16 ?h3_16 ?hq_16 (Or.inl ⟨?hw_16, ?hy_16⟩) ?hs_16 ?rest_16; (case h2_16 => kernel_rfl); (case h3_16 => kernel_rfl); (case ho_16 => (simp only [List.getElem?_toArray, List.getElem?_cons_zero, List.getElem?_cons_succ]; rfl)); (case h1_16 => kernel_rfl); (case hq_16 => exact fun _ _ _ h => h); (case hw_16 => rfl); (case hy_16 => (intro w' hSw; (try simp only [S] at hSw); go_simp; (try with_reducible rfl))); (case hs_16 => assumption); (try simp only [Act.put, List.setIfInBounds_toArray, List.set_cons_zero, List.set_cons_succ])
        refine wpAnyH_take (i := 19) (oi := ?oi_17) (v := ?v_17) ?ho_17 ?h1_17 ?h2_17 ?h3_17 ?hq_17 (Or.inl ⟨?hw_17, ?hy_17⟩) ?hs_17 ?rest_17; (case h2_17 => kernel_rfl); (case h3_17 => kernel_rfl); (case ho_17 => (simp only [List.getElem?_toArray, List.getElem?_cons_zero, List.getElem?_cons_succ]; rfl)); (case h1_17 => kernel_rfl); (case hq_17 => exact fun _ _ _ h => h); (case hw_17 => rfl); (case hy_17 => (intro w' hSw; (try simp only [S] at hSw); go_simp; (try with_reducible rfl))); (case hs_17 => assumption); (try simp only [Act.put, List.setIfInBounds_toArray, List.set_cons_zero, List.set_cons_succ])
        refine wpAnyH_take (i := 20) (oi := ?oi_18) (v := ?v_18) ?ho_18 ?h1_18 ?h2_18 ?h3_18 ?hq_18 (Or.inl ⟨?hw_18, ?hy_18⟩) ?hs_18 ?rest_18; (case h2_18 => kernel_rfl); (case h3_18 => kernel_rfl); (case ho_18 => (simp only [List.getElem?_toArray, List.getElem?_cons_zero, List.getElem?_cons_succ]; rfl)); (case h1_18 => kernel_rfl); (case hq_18 => exact fun _ _ _ h => h); (case hw_18 => rfl); (case hy_18 => (intro w' hSw; (try simp only [S] at hSw); go_simp; (try with_reducible rfl))); (case hs_18 => assumption); (try simp only [Act.put, List.setIfInBounds_toArray, List.set_cons_zero, List.set_cons_succ])
        refine wpAnyH_take (i := 21) (oi := ?oi_19) (v := ?v_19) ?ho_19 ?h1_19 ?h2_19 ?h3_19 ?hq_19 (Or.inl ⟨?hw_19, ?hy_19⟩) ?hs_19 ?rest_19; (case h2_19 => kernel_rfl); (case h3_19 => kernel_rfl); (case ho_19 => (simp only [List.getElem?_toArray, List.getElem?_cons_zero, List.getElem?_cons_succ]; rfl)); (case h1_19 => kernel_rfl); (case hq_19 => exact fun _ _ _ h => h); (case hw_19 => rfl); (case hy_19 => (intro w' hSw; (try simp only [S] at hSw); go_simp; (try with_reducible rfl))); (case hs_19 => assumption); (try simp only [Act.put, List.setIfInBounds_toArray, List.set_cons_zero, List.set_cons_succ])
        refine wpAnyH_take (i := 22) (oi := ?oi_20) (v := ?v_20) ?ho_20 ?h1_20 ?h2_20 ?h3_20 ?hq_20 (Or.inl ⟨?hw_20, ?hy_20⟩) ?hs_20 ?rest_20; (case h2_20 => kernel_rfl); (case h3_20 => kernel_rfl); (case ho_20 => (simp only [List.getElem?_toArray, List.getElem?_cons_zero, List.getElem?_cons_succ]; rfl)); (case h1_20 => kernel_rfl); (case hq_20 => exact fun _ _ _ h => h); (case hw_20 => rfl); (case hy_20 => (intro w' hSw; (try simp only [S] at hSw); go_simp; (try with_reducible rfl))); (case hs_20 => assumption); (try simp only [Act.put, List.setIfInBounds_toArray, List.set_cons_zero, List.set_cons_succ])
        refine wpAnyH_take (i := 23) (oi := ?oi_32) (v := ?v_32) ?ho_32 ?h1_32 ?h2_32 ?h3_32 ?hq_32 (Or.inl ⟨?hw_32, ?hy_32⟩) ?hs_32 ?rest_32; (case h2_32 => kernel_rfl); (case h3_32 => kernel_rfl); (case ho_32 => (simp only [List.getElem?_toArray, List.getElem?_cons_zero, List.getElem?_cons_succ]; rfl)); (case h1_32 => kernel_rfl); (case hq_32 => exact fun _ _ _ h => h); (case hw_32 => rfl); (case hy_32 => (intro w' hSw; have hq := hSw.2.2; go_simp; (try with_reducible rfl))); (case hs_32 => assumption); (try simp only [Act.put, List.setIfInBounds_toArray, List.set_cons_zero, List.set_cons_succ])
        refine wpAnyH_take (i := 24) (oi := ?oi_21) (v := ?v_21) ?ho_21 ?h1_21 ?h2_21 ?h3_21 ?hq_21 (Or.inl ⟨?hw_21, ?hy_21⟩) ?hs_21 ?rest_21; (case h2_21 => kernel_rfl); (case h3_21 => kernel_rfl); (case ho_21 => (simp only [List.getElem?_toArray, List.getElem?_cons_zero, List.getElem?_cons_succ]; rfl)); (case h1_21 => kernel_rfl); (case hq_21 => exact fun _ _ _ h => h); (case hw_21 => rfl); (case hy_21 => (intro w' hSw; (try simp only [S] at hSw); go_simp; (try with_reducible rfl))); (case hs_21 => assumption); (try simp only [Act.put, List.setIfInBounds_toArray, List.set_cons_zero, List.set_cons_succ])
        refine wpAnyH_take (i := 25) (oi := ?oi_22) (v := ?v_22) ?ho_22 ?h1_22 ?h2_22 ?h3_22 ?hq_22 (Or.inl ⟨?hw_22, ?hy_22⟩) ?hs_22 ?rest_22; (case h2_22 => kernel_rfl); (case h3_22 => kernel_rfl); (case ho_22 => (simp only [List.getElem?_toArray, List.getElem?_cons_zero, List.getElem?_cons_succ]; rfl)); (case h1_22 => kernel_rfl); (case hq_22 => exact fun _ _ _ h => h); (case hw_22 => rfl); (case hy_22 => (intro w' hSw; (try simp only [S] at hSw); go_simp; (try with_reducible rfl))); (case hs_22 => assumption); (try simp only [Act.put, List.setIfInBounds_toArray, List.set_cons_zero, List.set_cons_succ])
        refine wpAnyH_take (i := 26) (oi := ?oi_23) (v := ?v_23) ?ho_23 ?h1_23 ?h2_23 ?h3_23 ?hq_23 (Or.inl ⟨?hw_23, ?hy_23⟩) ?hs_23 ?rest_23; (case h2_23 => kernel_rfl); (case h3_23 => kernel_rfl); (case ho_23 => (simp only [List.getElem?_toArray, List.getElem?_cons_zero, List.getElem?_cons_succ]; rfl)); (case h1_23 => kernel_rfl); (case hq_23 => exact fun _ _ _ h => h); (case hw_23 => rfl); (case hy_23 => (intro w' hSw; (try simp only [S] at hSw); go_simp; (try with_reducible rfl))); (case hs_23 => assumption); (try simp only [Act.put, List.setIfInBounds_toArray, List.set_cons_zero, List.set_cons_succ])
        refine wpAnyH_take (i := 27) (oi := ?oi_24) (v := ?v_24) ?ho_24 ?h1_24 ?h2_24 ?h3_24 ?hq_24 (Or.inl ⟨?hw_24, ?hy_24⟩) ?hs_24 ?rest_24; (case h2_24 => kernel_rfl); (case h3_24 => kernel_rfl); (case ho_24 => (simp only [List.getElem?_toArray, List.getElem?_cons_zero, List.getElem?_cons_succ]; rfl)); (case h1_24 => kernel_rfl); (case hq_24 => exact fun _ _ _ h => h); (case hw_24 => rfl); (case hy_24 => (intro w' hSw; (try simp only [S] at hSw); go_simp; (try with_reducible rfl))); (case hs_24 => assumption); (try simp only [Act.put, List.setIfInBounds_toArray, List.set_cons_zero, List.set_cons_succ])
        refine wpAnyH_take (i := 28) (oi := ?oi_25) (v := ?v_25) ?ho_25 ?h1_25 ?h2_25 ?h3_25 ?hq_25 (Or.inl ⟨?hw_25, ?hy_25⟩) ?hs_25 ?rest_25; (case h2_25 => kernel_rfl); (case h3_25 => kernel_rfl); (case ho_25 => (simp only [List.getElem?_toArray, List.getElem?_cons_zero, List.getElem?_cons_succ]; rfl)); (case h1_25 => kernel_rfl); (case hq_25 => exact fun _ _ _ h => h); (case hw_25 => rfl); (case hy_25 => (intro w' hSw; (try simp only [S] at hSw); go_simp; (try with_reducible rfl))); (case hs_25 => assumption); (try simp only [Act.put, List.setIfInBounds_toArray, List.set_cons_zero, List.set_cons_succ])
        refine wpAnyH_take (i := 29) (oi := ?oi_26) (v := ?v_26) ?ho_26 ?h1_26 ?h2_26 ?h3_26 ?hq_26 (Or.inl ⟨?hw_26, ?hy_26⟩) ?hs_26 ?rest_26; (case h2_26 => kernel_rfl); (case h3_26 => kernel_rfl); (case ho_26 => (simp only [List.getElem?_toArray, List.getElem?_cons_zero, List.getElem?_cons_succ]; rfl)); (case h1_26 => kernel_rfl); (case hq_26 => exact fun _ _ _ h => h); (case hw_26 => rfl); (case hy_26 => (intro w' hSw; (try simp only [S] at hSw); go_simp; (try with_reducible rfl))); (case hs_26 => assumption); (try simp only [Act.put, List.setIfInBounds_toArray, List.set_cons_zero, List.set_cons_succ])
        refine wpAnyH_take (i := 30) (oi := ?oi_33) (v := ?v_33) ?ho_33 ?h1_33 ?h2_33 ?h3_33 ?hq_33 (Or.inl ⟨?hw_33, ?hy_33⟩) ?hs_33 ?rest_33; (case h2_33 => kernel_rfl); (case h3_33 => kernel_rfl); (case ho_33 => (simp only [List.getElem?_toArray, List.getElem?_cons_zero, List.getElem?_cons_succ]; rfl)); (case h1_33 => kernel_rfl); (case hq_33 => exact fun _ _ _ h => h); (case hw_33 => rfl); (case hy_33 => (intro w' hSw; have hq := hSw.2.2; go_simp; (try with_reducible rfl))); (case hs_33 => assumption); (try simp only [Act.put, List.setIfInBounds_toArray, List.set_cons_zero, List.set_cons_succ])
        refine wpAnyH_take (i := 31) (oi := ?oi_27) (v := ?v_27) ?ho_27 ?h1_27 ?h2_27 ?h3_27 ?hq_27 (Or.inl ⟨?hw_27, ?hy_27⟩) ?hs_27 ?rest_27; (case h2_27 => kernel_rfl); (case h3_27 => kernel_rfl); (case ho_27 => (simp only [List.getElem?_toArray, List.getElem?_cons_zero, List.getElem?_cons_succ]; rfl)); (case h1_27 => kernel_rfl); (case hq_27 => exact fun _ _ _ h => h); (case hw_27 => rfl); (case hy_27 => (intro w' hSw; (try simp only [S] at hSw); go_simp; (try with_reducible rfl))); (case hs_27 => assumption); (try simp only [Act.put, List.setIfInBounds_toArray, List.set_cons_zero, List.set_cons_succ])
        refine wpAnyH_ready (rs := [6, 32]) (by kernel_rfl) (by simp) (AllReadyH.cons (o := ?oo6_34) ?hoo6_34 (fun K hK => ?step6) (AllReadyH.cons (o := ?oo32_34) ?hoo32_34 (fun K hK => ?step32) AllReadyH.nil)); (case hoo6_34 => (simp only [List.getElem?_toArray, List.getElem?_cons_zero, List.getElem?_cons_succ]; rfl)); (case hoo32_34 => (simp only [List.getElem?_toArray, List.getElem?_cons_zero, List.getElem?_cons_succ]; rfl))
        case step6 =>
          refine step_app _ rfl (.tmp 20) (.tmp 25) 22 rfl Try.underlying22 elemC rfl (own_drewN HX.out.1 1) rfl hxK.drew (oneCell_bvs _) (by simp only [maxLen]; omega) (by omega) (by exact hzr) ?_
          intro A24 c24 w24 hown24 hg24 hb24 hat24
          have hz24 : wr.heap.size ≤ w24.heap.size := hg24.size
          have hS1 : S w24 := hSS _ _ hb24 hS0
          refine hK.out _ _ hS1 (fun _ => ?_)
          clear hK K
          (try simp only [Act.put, List.setIfInBounds_toArray, List.set_cons_zero, List.set_cons_succ])
          have hbA : Below V.heap.size w24 (w24.alloc (.cells tl2 5)) := (Below.refl _ _).alloc (by omega) _
          have hS2 : S (w24.alloc (.cells tl2 5)) := hSS _ _ hbA hS1
          refine wpAnyH_ready (rs := [32]) (by kernel_rfl) (by simp) (AllReadyH.cons (o := ?oo32_35) ?hoo32_35 (fun K hK => ?steponly35) AllReadyH.nil); (case hoo32_35 => (simp only [List.getElem?_toArray, List.getElem?_cons_zero, List.getElem?_cons_succ]; rfl))
          go_simp
          try rw [ht4']
          refine hK.out _ _ hS2 (fun _ => ?_)
          clear hK K
          (try simp only [Act.put, List.setIfInBounds_toArray, List.set_cons_zero, List.set_cons_succ])
          have hx38 : Sl (w24.alloc (.cells tl2 5)) (w24.alloc (.cells tl2 5)).heap.size 1 (some ⟨w24.heap.size, 0, none⟩) 4 (bvs tl) := by
            have := Sl.new (sz := 1) (n := 4) (heap_alloc_new w24 (.cells tl2 5)) (by rw [← ht4, bvs_len, htll])
            have e : tl2.toList = bvs tl := by rw [← ht4]
            rw [e] at this
            exact this
          refine wpAnyH_ready (rs := [33]) (by kernel_rfl) (by simp) (AllReadyH.cons (o := ?oo33_36) ?hoo33_36 (fun K hK => ?steponly36) AllReadyH.nil); (case hoo33_36 => (simp only [List.getElem?_toArray, List.getElem?_cons_zero, List.getElem?_cons_succ]; rfl))
          refine step_app _ rfl (.tmp 26) (.tmp 52) 22 rfl Try.underlying22 elemC rfl (hown24.alloc _) rfl hx38 (oneCell_bvs _) (by simp only [maxLen]; omega) (by omega) (by simp; omega) ?_
          intro A39 c39 w39 hown39 hg39 hb39 hat39
          have hS3 : S w39 := hSS _ _ hb39 hS2
          refine hK.out _ _ hS3 (fun _ => ?_)
          clear hK K
          (try simp only [Act.put, List.setIfInBounds_toArray, List.set_cons_zero, List.set_cons_succ])
          have hB39 : Below V.heap.size V w39 := ((HX.out.2.1.drew.trans hb24).trans hbA).trans hb39
          refine wpAnyH_take (i := 34) (oi := ?oi_28) (v := ?v_28) ?ho_28 ?h1_28 ?h2_28 ?h3_28 ?hq_28 (Or.inl ⟨?hw_28, ?hy_28⟩) ?hs_28 ?rest_28; (case h2_28 => kernel_rfl); (case h3_28 => kernel_rfl); (case ho_28 => (simp only [List.getElem?_toArray, List.getElem?_cons_zero, List.getElem?_cons_succ]; rfl)); (case h1_28 => kernel_rfl); (case hq_28 => exact fun _ _ _ h => h); (case hw_28 => rfl); (case hy_28 => (intro w' hSw; (try simp only [S] at hSw); go_simp; (try with_reducible rfl))); (case hs_28 => assumption); (try simp only [Act.put, List.setIfInBounds_toArray, List.set_cons_zero, List.set_cons_succ])
          refine wpAnyH_done (by kernel_rfl) ?_ _
          rw [← bvs_append, ← bvs_append, HTL.out.symm, ← HX.out.2.2.1] at hown39
          have HF := Lib.hid (And.intro hown39 hB39)
          clear hown39 hB39 hSS
          go_wp2_with fail
          have hmm := HX.out.2.2.2
          refine ⟨⟨k + 1, by omega, by go_num, by rw [show 2 + (k + 1) * 36 = m + 32 + 4 by omega]; exact HF.out.1, HF.out.2⟩, by simp [intOf]; omega⟩
        case step32 =>
          have hbA : Below V.heap.size wr (wr.drew.alloc (.cells tl2 5)) := ((Below.refl _ wr).drew).alloc hzr _
          have hbW : Below wr.heap.size wr (wr.drew.alloc (.cells tl2 5)) := ((Below.refl _ wr).drew).alloc (Nat.le_refl _) _
          have hS1 : S (wr.drew.alloc (.cells tl2 5)) := hSS wr _ hbA hS0
          go_simp
          try rw [ht4']
          refine hK.out _ _ hS1 (fun _ => ?_)
          clear hK K
          (try simp only [Act.put, List.setIfInBounds_toArray, List.set_cons_zero, List.set_cons_succ])
          have own1 := own_below HX.out.1 hbW
          have hxK1 := hxK.below hbW
          have b38 : (wr.drew.alloc (.cells tl2 5)).heap[wr.heap.size]? = some (.cells tl2 5) := heap_alloc_new wr.drew _
          have hlt4 : ∀ q, (Value.slice A4 m c4).ownBlock = some q → q < wr.heap.size := fun q hq => (HX.out.1.lt q hq).2
          refine wpAnyH_ready (rs := [6]) (by kernel_rfl) (by simp) (AllReadyH.cons (o := ?oo6_37) ?hoo6_37 (fun K hK => ?steponly37) AllReadyH.nil); (case hoo6_37 => (simp only [List.getElem?_toArray, List.getElem?_cons_zero, List.getElem?_cons_succ]; rfl))
          refine step_app _ rfl (.tmp 20) (.tmp 25) 22 rfl Try.underlying22 elemC rfl own1 rfl hxK1 (oneCell_bvs _) (by simp only [maxLen]; omega) (by omega) (by simp; omega) ?_
          intro A24 c24 w24 hown24 hg24 hb24 hat24
          have hg24' : World.grownBy (wr.drew.alloc (.cells tl2 5)) w24 (Value.slice A4 m c4).ownBlock := hg24
          have hz24 : wr.heap.size + 1 ≤ w24.heap.size := by have := hg24'.size; simpa using this
          have hS2 : S w24 := hSS _ _ hb24 hS1
          have b38' : w24.heap[wr.heap.size]? = some (.cells tl2 5) := (hg24'.block _ (by simp) (fun e => by have := hlt4 _ e.symm; omega)).trans b38
          refine hK.out _ _ hS2 (fun _ => ?_)
          clear hK K
          (try simp only [Act.put, List.setIfInBounds_toArray, List.set_cons_zero, List.set_cons_succ])
          have hx38 : Sl w24 w24.heap.size 1 (some ⟨wr.heap.size, 0, none⟩) 4 (bvs tl) := by
            have := Sl.new (sz := 1) (n := 4) b38' (by rw [← ht4, bvs_len, htll])
            rw [← ht4] at this
            exact this
          refine wpAnyH_ready (rs := [33]) (by kernel_rfl) (by simp) (AllReadyH.cons (o := ?oo33_38) ?hoo33_38 (fun K hK => ?steponly38) AllReadyH.nil); (case hoo33_38 => (simp only [List.getElem?_toArray, List.getElem?_cons_zero, List.getElem?_cons_succ]; rfl))
          refine step_app _ rfl (.tmp 26) (.tmp 52) 22 rfl Try.underlying22 elemC rfl hown24 rfl hx38 (oneCell_bvs _) (by simp only [maxLen]; omega) (by omega) (by omega) ?_
          intro A39 c39 w39 hown39 hg39 hb39 hat39
          have hS3 : S w39 := hSS _ _ hb39 hS2
          refine hK.out _ _ hS3 (fun _ => ?_)
          clear hK K
          (try simp only [Act.put, List.setIfInBounds_toArray, List.set_cons_zero, List.set_cons_succ])
          have hB39 : Below V.heap.size V w39 := ((HX.out.2.1.trans hbA).trans hb24).trans hb39
          refine wpAnyH_take (i := 34) (oi := ?oi_29) (v := ?v_29) ?ho_29 ?h1_29 ?h2_29 ?h3_29 ?hq_29 (Or.inl ⟨?hw_29, ?hy_29⟩) ?hs_29 ?rest_29; (case h2_29 => kernel_rfl); (case h3_29 => kernel_rfl); (case ho_29 => (simp only [List.getElem?_toArray, List.getElem?_cons_zero, List.getElem?_cons_succ]; rfl)); (case h1_29 => kernel_rfl); (case hq_29 => exact fun _ _ _ h => h); (case hw_29 => rfl); (case hy_29 => (intro w' hSw; (try simp only [S] at hSw); go_simp; (try with_reducible rfl))); (case hs_29 => assumption); (try simp only [Act.put, List.setIfInBounds_toArray, List.set_cons_zero, List.set_cons_succ])
          refine wpAnyH_done (by kernel_rfl) ?_ _
          rw [← bvs_append, ← bvs_append, HTL.out.symm, ← HX.out.2.2.1] at hown39
          have HF := Lib.hid (And.intro hown39 hB39)
          clear hown39 hB39 hSS
          go_wp2_with fail
          have hmm := HX.out.2.2.2
          refine ⟨⟨k + 1, by omega, by go_num, by rw [show 2 + (k + 1) * 36 = m + 32 + 4 by omega]; exact HF.out.1, HF.out.2⟩, by simp [intOf]; omega⟩
      · obtain rfl : k = n := by omega
        have hi1 : ¬ (k : Int) < (k : Int) := by omega
        rw [lfTo_all HN.out] at hown
        have hbl : (lfB l).length = 2 + k * 36 := by rw [lfB_len H1.out.2.2.ok, HN.out]; 
        obtain ⟨m, hm⟩ : ∃ m, 2 + k * 36 = m := ⟨_, rfl⟩
        have hm124 : m ≤ 124 := by omega
        rw [hm] at hown hbl
        rw [hm]
        have hsl := rblock_any (c := c4) wr (Sl.of_own hown) hbl hm124
        have a2 := bBlk hbr l3 H1.out.1
        have hB := bNext H1.out.2.1 hbr
        have l4 := (Array.getElem?_eq_some_iff.1 a2).1
        have e1 : lfEnc l = sealB (lfB l) := by unfold lfEnc; rw [HG.out.1, if_pos rfl]
        have e2 : (sealB (lfB l)).length = 128 := sealB_len (by rw [hbl]; exact hm124)
        unfold bkv at hsl
        obtain ⟨P, hP⟩ : ∃ q, sealB (lfB l) = q := ⟨_, rfl⟩
        rw [hP] at hsl e1 e2
        have HE := Lib.hid (And.intro e1 (And.intro hB a2))
        have hpi := bk_info e2
        have hps : (bvs P).toArray.size = zb.size := by rw [List.size_toArray, bvs_len, e2, hzs]
        have hp1 := oneCell_bvs P
        clear hown hbr hbl hm hB a2 e1 hP hm124
        go_upto_region 8 with (fail)
        go_wp2_with fail
        refine Calls.mono hsl ?_
        rintro e Z ⟨rfl, hbZ⟩
        clear hsl
        have a2 := bBlk hbZ l4 HE.out.2.2
        have hB := bNext HE.out.2.1 hbZ
        have HB := Lib.hid hB
        clear hB hbZ
        go_wp2_with (first
          | (refine wpList_store_row rfl 40 (.tmp 2) (.tmp 55) rfl _ (bvs P).toArray rfl rfl _ zb a2 hpi hps.symm (all_oneCell_toArray hp1) ?_)
          | fail)
        generalize hX : World.setRow _ _ _ = X9
        have b9 : X9.heap[w.heap.size]? = some (.cells (bvs P).toArray 40) := by rw [← hX]; exact setRow_heap _ _ _ _ _ _ a2
        have hBX : Below w.heap.size w X9 := by rw [← hX]; exact bSetRow HB.out (Nat.le_refl _) _
        clear hX
        have hld := run_loadVar_row (P := Try.prog) X9 _ _ 40 _ _ _ b9 Try.underlying40 rfl hpi
        refine bodyPost_ret (by simp [results, Try.results25, Act.put, asAddr, Result.andThen, hld]; try rfl) rfl ?_
        exact Ret.mk (by rw [HE.out.1, HG.out.1]; rfl) hBX
end Go.Proofs.Ythmjkgpfnpdddaa
