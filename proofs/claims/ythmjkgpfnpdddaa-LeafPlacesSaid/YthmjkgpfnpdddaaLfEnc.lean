/- The walk over leaf.Encode. -/
import Derived.Test.YthmjkgpfnpdddaaLfGood
import Derived.Test.YthmjkgpfnpdddaaLfSeal
namespace Go.Proofs.Ythmjkgpfnpdddaa
set_option linter.unusedSimpArgs false
set_option linter.unusedVariables false
open Go.RowKit Go.ChangeShapes Go.WideShapes Go.Sort

theorem lgood_any {A : Option Addr} {n c : Nat} {l : List EN} (w : World) (h : LfAt w w.heap.size A n c l) : Calls Try.prog 32 #[.slice A n c] w (Ret w (.bool (goodE l))) := by
  by_cases hn : 1 ≤ n ∧ n ≤ 3
  · rw [show goodE l = chain l from by unfold goodE; rw [h.len, decide_eq_true hn, Bool.true_and]]
    exact good_yes w h hn.1 hn.2
  · rw [show goodE l = false from by unfold goodE; rw [h.len, decide_eq_false hn, Bool.false_and]]
    exact good_no (by omega) w
theorem lfTo_zero (n : Nat) (l : List EN) : lfTo n l 0 = [76, u8 (n : Int)] := by simp [lfTo]
theorem lfTo_succ {n : Nat} {l : List EN} {k : Nat} {x : EN} (h : l[k]? = some x) : lfTo n l (k + 1) = lfTo n l k ++ x.key ++ [u8 x.place, u8 x.blocks, u8 (x.refs / 256), u8 x.refs] := by
  obtain ⟨hk, rfl⟩ := List.getElem?_eq_some_iff.1 h
  unfold lfTo
  rw [List.take_succ_eq_append_getElem hk, List.flatMap_append]
  simp [EN.bytes]
theorem lfTo_all {n : Nat} {l : List EN} (h : l.length = n) : lfTo n l n = lfB l := by unfold lfTo lfB; rw [← h, List.take_length]
theorem tail4 (x : EN) : (bvs [u8 x.place, u8 x.blocks, u8 (x.refs / 256), u8 x.refs]).toArray = #[Value.int .u8 (IntKind.u8.wrap x.place), .int .u8 (IntKind.u8.wrap x.blocks), .int .u8 (IntKind.u8.wrap (x.refs / 256)), .int .u8 (IntKind.u8.wrap x.refs)] := by
  simp only [bvs, List.map_cons, List.map_nil, bv_u8, IntKind.wrap_u8]
attribute [-go_sem] Builtin.append_
set_option maxHeartbeats 16000000 in
set_option maxRecDepth 100000 in
theorem lenc_any {A : Option Addr} {n c : Nat} {l : List EN} (w : World) (h : LfAt w w.heap.size A n c l) : Calls Try.prog 24 #[.slice A n c] w (Ret w (.tuple #[bkv (lfEnc l), .int .i64 (erE (goodE l))])) := by
  have hgd := fun W (k : LfAt W W.heap.size A n c l) => lgood_any W k
  have HS := Lib.hid h
  have HN := Lib.hid h.len
  clear h
  unfold bkv
  go_enter Try.func24, Try.ntmps24
  obtain ⟨zb, hzb⟩ : ∃ q, (bvs zblk).toArray = q := ⟨_, rfl⟩
  have hbz := blkZ
  have hb0 := built_blk0
  have hzs : zb.size = 128 := by rw [← hzb, List.size_toArray, bvs_len, zblk_len]
  have hzi : (Try.prog.info? 40).map (·.size) = some zb.size := by rw [hzs]; exact bk_size
  have hz1 : (zb.all fun x => x.oneCell') = true := by rw [← hzb]; exact all_oneCell_toArray (oneCell_bvs _)
  rw [hzb] at hbz hb0
  have HZ := Lib.hid hzb
  clear hzb
  go_upto_region 1 with (first | (refine wpList_new rfl hbz rfl ?_) | fail)
  obtain ⟨W, hW⟩ : ∃ q, w.alloc (.cells zb 40) = q := ⟨_, rfl⟩
  have a2 : W.heap[w.heap.size]? = some (.cells zb 40) := by rw [← hW]; exact heap_alloc_new _ _
  have hB : Below w.heap.size w W := by rw [← hW]; exact (Below.refl _ _).alloc (Nat.le_refl _) _
  try rw [hW]
  clear hW
  have hgd' := hgd W (HS.out.nxt hB)
  have l2 := (Array.getElem?_eq_some_iff.1 a2).1
  have HA := Lib.hid (And.intro a2 hB)
  clear a2 hB hgd
  go_wp2_with fail
  refine Calls.mono hgd' ?_
  rintro e V ⟨rfl, hbV⟩
  have a2 := bBlk hbV l2 HA.out.1
  have hB := bNext HA.out.2 hbV
  have hl := HS.out.nxt hB
  have l3 := (Array.getElem?_eq_some_iff.1 a2).1
  clear HA hgd' hbV l2
  cases hg : goodE l
  · have e1 : lfEnc l = zblk := by unfold lfEnc; rw [hg]; rfl
    have HE := Lib.hid (And.intro e1 hB)
    have HG := Lib.hid hg
    clear e1 hB hl hg
    go_wp2_with (first
      | (refine wpList_built rfl 40 #[] rfl (cs := zb) (by simp only [List.map_toArray, List.map_nil]; exact hb0) ?_)
      | (refine wpList_store_row rfl 40 (.tmp 2) (.tmp 10) rfl _ zb rfl rfl _ zb a2 hzi rfl hz1 ?_)
      | fail)
    generalize hX : World.setRow _ _ _ = X9
    have b9 : X9.heap[w.heap.size]? = some (.cells zb 40) := by rw [← hX]; exact setRow_heap _ _ _ _ _ _ a2
    have hBX : Below w.heap.size w X9 := by rw [← hX]; exact bSetRow HE.out.2 (Nat.le_refl _) _
    clear hX
    have hld := run_loadVar_row (P := Try.prog) X9 _ _ 40 _ _ _ b9 Try.underlying40 rfl hzi
    refine bodyPost_ret (by simp [results, Try.results24, Act.put, asAddr, Result.andThen, hld]; try rfl) rfl ?_
    exact Ret.mk (by rw [HE.out.1, HZ.out, HG.out]; rfl) hBX
  · obtain ⟨⟨n1, n3⟩, hto⟩ := goodE_iff.1 hg
    rw [HN.out] at n1 n3 hto
    have HG := Lib.hid (And.intro hg hto)
    have hoc : (bvs [76, u8 (n : Int)]).toArray = #[Value.int .u8 76, .int .u8 (n : Int)] := by
      simp only [bvs, List.map_cons, List.map_nil, bv_u8]
      rw [Int.emod_eq_of_lt (by omega) (by omega)]
      rfl
    have H1 := Lib.hid (And.intro a2 (And.intro hB hl))
    clear hg hto a2 hB hl
    go_upto_region 4 with (fail)
    obtain ⟨W1, hW1⟩ : ∃ q, V.alloc (.cells (bvs [76, u8 (n : Int)]).toArray 5) = q := ⟨_, rfl⟩
    have b1 : W1.heap[V.heap.size]? = some (.cells (bvs [76, u8 (n : Int)]).toArray 5) := by rw [← hW1]; exact heap_alloc_new _ _
    have hbW1 : Below V.heap.size V W1 := by rw [← hW1]; exact (Below.refl _ _).alloc (Nat.le_refl _) _
    rw [hoc] at hW1
    try rw [hW1]
    have own0 := own_lit (W := W1) (base := V.heap.size) (n := 2) (cs := bvs [76, u8 (n : Int)]) (t := 5) (Nat.le_refl _) b1 (by rw [bvs_len]; rfl) (by simp [maxLen])
    have hwV : w.heap.size < V.heap.size := l3
    clear hW1 b1 hoc
    go_wp2_with fail
    go_loopw [4, 17] (fun sb si wr => ∃ k : Nat, k ≤ n ∧ si = .int .i64 k ∧ wr.ownsRow V.heap.size 5 1 sb (2 + k * 36) (bvs (lfTo n l k)) ∧ Below V.heap.size V wr) (fun _ i _ => n - (intOf i).toNat)
    case atStart => exact ⟨0, by omega, rfl, by rw [lfTo_zero]; exact own0, hbW1⟩
    case round =>
      clear own0 hbW1
      obtain ⟨k, hk, rfl, hown, hbr⟩ := hrel
      obtain ⟨A4, c4, rfl, -⟩ := own_form hown
      by_cases hlt : k < n
      · obtain ⟨x, hx⟩ : ∃ x, l[k]? = some x := ⟨_, List.getElem?_eq_getElem (by rw [HN.out]; exact hlt)⟩
        have hxo := H1.out.2.2.ok x (List.mem_of_getElem? hx)
        obtain ⟨b, o, rfl, hbB, hxr⟩ := H1.out.2.2.entry hx
        have hzr := hbr.size
        replace hxr := bRange hbr hbB hxr
        have hx1 : x.one = true := by
          obtain ⟨y, ey, hy, -⟩ := HG.out.2 k hlt
          rw [hx] at ey
          injection ey with ey
          rw [ey]; exact hy
        have ht4 := tail4 x
        obtain ⟨p1, p2, p3, p4, p5, p6, p7⟩ := (EN.one_iff x).1 hx1
        have hls := lfTo_succ (n := n) hx
        have hi1 : (k : Int) < (n : Int) := by omega
        have hxli := en_linfo hxo
        have hxi := en_info hxo
        have hxs := en_sizes en0_ok hxo
        have hone := one_en x
        have hez := enZ
        obtain ⟨z, hz⟩ : ∃ q, en0.cells.toArray = q := ⟨_, rfl⟩
        rw [hz] at hxs hez
        clear hz
        obtain ⟨Y, hY, y6, bY⟩ := newRow wr z x.cells.toArray 73
        have hbY := hbr.trans (bY.mono hzr)
        have hownY := own_below hown bY
        have hlt4 : ∀ q, (Value.slice A4 (2 + k * 36) c4).ownBlock = some q → q < wr.heap.size := fun q hq => (hown.lt q hq).2
        have hge4 : ∀ q, (Value.slice A4 (2 + k * 36) c4).ownBlock = some q → V.heap.size ≤ q := fun q hq => (hown.lt q hq).1
        obtain ⟨m, hm⟩ : ∃ m, 2 + k * 36 = m := ⟨_, rfl⟩
        have hmb : m ≤ 200 := by omega
        rw [hm] at hownY hlt4 hge4
        rw [hm]
        have hkl := hxo.key
        obtain ⟨rk, c32, c33, c34⟩ := en_range hxo (range_blk y6)
        rw [Nat.zero_add] at c32 c33 c34
        have l6 := (Array.getElem?_eq_some_iff.1 y6).1
        have HX := Lib.hid (And.intro hownY (And.intro hbY (And.intro hls (And.intro hm y6))))
        clear hown hbr hxo hx hx1 hownY hbY hls hm y6 bY
        go_upto_region 7 with (first
          | (refine wpList_load_mid rfl 73 (.tmp 19) rfl b (o + k * 35) rfl x.cells _ hxr Try.underlying73 rfl hxli ?_)
          | (refine wpList_new rfl hez rfl ?_)
          | (refine wpList_store_row rfl 73 (.tmp 6) (.tmp 20) rfl _ x.cells.toArray rfl rfl _ z (heap_alloc_new _ _) hxi hxs (all_oneCell_toArray hone) ?_; (try rw [hY]))
          | fail)
        (try simp only [Act.put, List.setIfInBounds_toArray, List.set_cons_zero, List.set_cons_succ])
        clear hY hez hxs hxi hxli hone hxr
        have hxK : Sl Y Y.heap.size 1 (some ⟨wr.heap.size, 0, none⟩) 32 (bvs x.key) := ⟨by rw [bvs_len, hkl], fun _ => ⟨wr.heap.size, 0, rfl, l6, rk⟩⟩
        obtain ⟨tl, htl⟩ : ∃ q, [u8 x.place, u8 x.blocks, u8 (x.refs / 256), u8 x.refs] = q := ⟨_, rfl⟩
        have htll : tl.length = 4 := by rw [← htl]; rfl
        rw [htl] at ht4
        have HTL := Lib.hid htl
        clear htl
        let S : World → Prop := fun w' => w'.cell? ⟨wr.heap.size, 32, none⟩ = some (.int .i64 x.place) ∧ w'.cell? ⟨wr.heap.size, 33, none⟩ = some (.int .i64 x.blocks) ∧ w'.cell? ⟨wr.heap.size, 34, none⟩ = some (.int .i64 x.refs)
        have hS0 : S Y.drew := ⟨c32, c33, c34⟩
        refine wp_region_held (S := S) (by kernel_rfl) ?_
        change wpAnyH _ _ _ _ S _ _ _ Y.drew
        refine wpAnyH_take (i := 0) (oi := ?oi_1033) (v := ?v_1033) ?ho_1033 ?h1_1033 ?h2_1033 ?h3_1033 ?hq_1033 (Or.inl ⟨?hw_1033, ?hy_1033⟩) ?hs_1033 ?rest_1033; (case h2_1033 => kernel_rfl); (case h3_1033 => kernel_rfl); (case ho_1033 => (simp only [List.getElem?_toArray, List.getElem?_cons_zero, List.getElem?_cons_succ]; rfl)); (case h1_1033 => kernel_rfl); (case hq_1033 => exact fun _ _ _ h => h); (case hw_1033 => rfl); (case hy_1033 => (intro w' hSw; (try simp only [S] at hSw); go_simp; (try with_reducible rfl))); (case hs_1033 => assumption); (try simp only [Act.put, List.setIfInBounds_toArray, List.set_cons_zero, List.set_cons_succ])
        refine wpAnyH_take (i := 1) (oi := ?oi_1034) (v := ?v_1034) ?ho_1034 ?h1_1034 ?h2_1034 ?h3_1034 ?hq_1034 (Or.inl ⟨?hw_1034, ?hy_1034⟩) ?hs_1034 ?rest_1034; (case h2_1034 => kernel_rfl); (case h3_1034 => kernel_rfl); (case ho_1034 => (simp only [List.getElem?_toArray, List.getElem?_cons_zero, List.getElem?_cons_succ]; rfl)); (case h1_1034 => kernel_rfl); (case hq_1034 => exact fun _ _ _ h => h); (case hw_1034 => rfl); (case hy_1034 => (intro w' hSw; (try simp only [S] at hSw); go_simp; (try with_reducible rfl))); (case hs_1034 => assumption); (try simp only [Act.put, List.setIfInBounds_toArray, List.set_cons_zero, List.set_cons_succ])
        refine wpAnyH_take (i := 2) (oi := ?oi_1035) (v := ?v_1035) ?ho_1035 ?h1_1035 ?h2_1035 ?h3_1035 ?hq_1035 (Or.inl ⟨?hw_1035, ?hy_1035⟩) ?hs_1035 ?rest_1035; (case h2_1035 => kernel_rfl); (case h3_1035 => kernel_rfl); (case ho_1035 => (simp only [List.getElem?_toArray, List.getElem?_cons_zero, List.getElem?_cons_succ]; rfl)); (case h1_1035 => kernel_rfl); (case hq_1035 => exact fun _ _ _ h => h); (case hw_1035 => rfl); (case hy_1035 => (intro w' hSw; (try simp only [S] at hSw); go_simp; (try with_reducible rfl))); (case hs_1035 => assumption); (try simp only [Act.put, List.setIfInBounds_toArray, List.set_cons_zero, List.set_cons_succ])
        refine wpAnyH_take (i := 4) (oi := ?oi_1036) (v := ?v_1036) ?ho_1036 ?h1_1036 ?h2_1036 ?h3_1036 ?hq_1036 (Or.inl ⟨?hw_1036, ?hy_1036⟩) ?hs_1036 ?rest_1036; (case h2_1036 => kernel_rfl); (case h3_1036 => kernel_rfl); (case ho_1036 => (simp only [List.getElem?_toArray, List.getElem?_cons_zero, List.getElem?_cons_succ]; rfl)); (case h1_1036 => kernel_rfl); (case hq_1036 => exact fun _ _ _ h => h); (case hw_1036 => rfl); (case hy_1036 => (intro w' hSw; (try simp only [S] at hSw); go_simp; (try with_reducible rfl))); (case hs_1036 => assumption); (try simp only [Act.put, List.setIfInBounds_toArray, List.set_cons_zero, List.set_cons_succ])
        refine wpAnyH_take (i := 5) (oi := ?oi_1047) (v := ?v_1047) ?ho_1047 ?h1_1047 ?h2_1047 ?h3_1047 ?hq_1047 (Or.inl ⟨?hw_1047, ?hy_1047⟩) ?hs_1047 ?rest_1047; (case h2_1047 => kernel_rfl); (case h3_1047 => kernel_rfl); (case ho_1047 => (simp only [List.getElem?_toArray, List.getElem?_cons_zero, List.getElem?_cons_succ]; rfl)); (case h1_1047 => kernel_rfl); (case hq_1047 => exact fun _ _ _ h => h); (case hw_1047 => rfl); (case hy_1047 => (intro w' hSw; have hq := hSw.1; go_simp; (try with_reducible rfl))); (case hs_1047 => assumption); (try simp only [Act.put, List.setIfInBounds_toArray, List.set_cons_zero, List.set_cons_succ])
        refine wpAnyH_take (i := 6) (oi := ?oi_1037) (v := ?v_1037) ?ho_1037 ?h1_1037 ?h2_1037 ?h3_1037 ?hq_1037 (Or.inl ⟨?hw_1037, ?hy_1037⟩) ?hs_1037 ?rest_1037; (case h2_1037 => kernel_rfl); (case h3_1037 => kernel_rfl); (case ho_1037 => (simp only [List.getElem?_toArray, List.getElem?_cons_zero, List.getElem?_cons_succ]; rfl)); (case h1_1037 => kernel_rfl); (case hq_1037 => exact fun _ _ _ h => h); (case hw_1037 => rfl); (case hy_1037 => (intro w' hSw; (try simp only [S] at hSw); go_simp; (try with_reducible rfl))); (case hs_1037 => assumption); (try simp only [Act.put, List.setIfInBounds_toArray, List.set_cons_zero, List.set_cons_succ])
        refine wpAnyH_take (i := 7) (oi := ?oi_1038) (v := ?v_1038) ?ho_1038 ?h1_1038 ?h2_1038 ?h3_1038 ?hq_1038 (Or.inl ⟨?hw_1038, ?hy_1038⟩) ?hs_1038 ?rest_1038; (case h2_1038 => kernel_rfl); (case h3_1038 => kernel_rfl); (case ho_1038 => (simp only [List.getElem?_toArray, List.getElem?_cons_zero, List.getElem?_cons_succ]; rfl)); (case h1_1038 => kernel_rfl); (case hq_1038 => exact fun _ _ _ h => h); (case hw_1038 => rfl); (case hy_1038 => (intro w' hSw; (try simp only [S] at hSw); go_simp; (try with_reducible rfl))); (case hs_1038 => assumption); (try simp only [Act.put, List.setIfInBounds_toArray, List.set_cons_zero, List.set_cons_succ])
        refine wpAnyH_take (i := 8) (oi := ?oi_1048) (v := ?v_1048) ?ho_1048 ?h1_1048 ?h2_1048 ?h3_1048 ?hq_1048 (Or.inl ⟨?hw_1048, ?hy_1048⟩) ?hs_1048 ?rest_1048; (case h2_1048 => kernel_rfl); (case h3_1048 => kernel_rfl); (case ho_1048 => (simp only [List.getElem?_toArray, List.getElem?_cons_zero, List.getElem?_cons_succ]; rfl)); (case h1_1048 => kernel_rfl); (case hq_1048 => exact fun _ _ _ h => h); (case hw_1048 => rfl); (case hy_1048 => (intro w' hSw; have hq := hSw.2.1; go_simp; (try with_reducible rfl))); (case hs_1048 => assumption); (try simp only [Act.put, List.setIfInBounds_toArray, List.set_cons_zero, List.set_cons_succ])
        refine wpAnyH_take (i := 9) (oi := ?oi_1039) (v := ?v_1039) ?ho_1039 ?h1_1039 ?h2_1039 ?h3_1039 ?hq_1039 (Or.inl ⟨?hw_1039, ?hy_1039⟩) ?hs_1039 ?rest_1039; (case h2_1039 => kernel_rfl); (case h3_1039 => kernel_rfl); (case ho_1039 => (simp only [List.getElem?_toArray, List.getElem?_cons_zero, List.getElem?_cons_succ]; rfl)); (case h1_1039 => kernel_rfl); (case hq_1039 => exact fun _ _ _ h => h); (case hw_1039 => rfl); (case hy_1039 => (intro w' hSw; (try simp only [S] at hSw); go_simp; (try with_reducible rfl))); (case hs_1039 => assumption); (try simp only [Act.put, List.setIfInBounds_toArray, List.set_cons_zero, List.set_cons_succ])
        refine wpAnyH_take (i := 10) (oi := ?oi_1040) (v := ?v_1040) ?ho_1040 ?h1_1040 ?h2_1040 ?h3_1040 ?hq_1040 (Or.inl ⟨?hw_1040, ?hy_1040⟩) ?hs_1040 ?rest_1040; (case h2_1040 => kernel_rfl); (case h3_1040 => kernel_rfl); (case ho_1040 => (simp only [List.getElem?_toArray, List.getElem?_cons_zero, List.getElem?_cons_succ]; rfl)); (case h1_1040 => kernel_rfl); (case hq_1040 => exact fun _ _ _ h => h); (case hw_1040 => rfl); (case hy_1040 => (intro w' hSw; (try simp only [S] at hSw); go_simp; (try with_reducible rfl))); (case hs_1040 => assumption); (try simp only [Act.put, List.setIfInBounds_toArray, List.set_cons_zero, List.set_cons_succ])
        refine wpAnyH_take (i := 11) (oi := ?oi_1049) (v := ?v_1049) ?ho_1049 ?h1_1049 ?h2_1049 ?h3_1049 ?hq_1049 (Or.inl ⟨?hw_1049, ?hy_1049⟩) ?hs_1049 ?rest_1049; (case h2_1049 => kernel_rfl); (case h3_1049 => kernel_rfl); (case ho_1049 => (simp only [List.getElem?_toArray, List.getElem?_cons_zero, List.getElem?_cons_succ]; rfl)); (case h1_1049 => kernel_rfl); (case hq_1049 => exact fun _ _ _ h => h); (case hw_1049 => rfl); (case hy_1049 => (intro w' hSw; have hq := hSw.2.2; go_simp; (try with_reducible rfl))); (case hs_1049 => assumption); (try simp only [Act.put, List.setIfInBounds_toArray, List.set_cons_zero, List.set_cons_succ])
        refine wpAnyH_take (i := 12) (oi := ?oi_1041) (v := ?v_1041) ?ho_1041 ?h1_1041 ?h2_1041 ?h3_1041 ?hq_1041 (Or.inl ⟨?hw_1041, ?hy_1041⟩) ?hs_1041 ?rest_1041; (case h2_1041 => kernel_rfl); (case h3_1041 => kernel_rfl); (case ho_1041 => (simp only [List.getElem?_toArray, List.getElem?_cons_zero, List.getElem?_cons_succ]; rfl)); (case h1_1041 => kernel_rfl); (case hq_1041 => exact fun _ _ _ h => h); (case hw_1041 => rfl); (case hy_1041 => (intro w' hSw; (try simp only [S] at hSw); go_simp; (try with_reducible rfl))); (case hs_1041 => assumption); (try simp only [Act.put, List.setIfInBounds_toArray, List.set_cons_zero, List.set_cons_succ])
        refine wpAnyH_take (i := 13) (oi := ?oi_1042) (v := ?v_1042) ?ho_1042 ?h1_1042 ?h2_1042 ?h3_1042 ?hq_1042 (Or.inl ⟨?hw_1042, ?hy_1042⟩) ?hs_1042 ?rest_1042; (case h2_1042 => kernel_rfl); (case h3_1042 => kernel_rfl); (case ho_1042 => (simp only [List.getElem?_toArray, List.getElem?_cons_zero, List.getElem?_cons_succ]; rfl)); (case h1_1042 => kernel_rfl); (case hq_1042 => exact fun _ _ _ h => h); (case hw_1042 => rfl); (case hy_1042 => (intro w' hSw; (try simp only [S] at hSw); go_simp; (try with_reducible rfl))); (case hs_1042 => assumption); (try simp only [Act.put, List.setIfInBounds_toArray, List.set_cons_zero, List.set_cons_succ])
        refine wpAnyH_take (i := 14) (oi := ?oi_1043) (v := ?v_1043) ?ho_1043 ?h1_1043 ?h2_1043 ?h3_1043 ?hq_1043 (Or.inl ⟨?hw_1043, ?hy_1043⟩) ?hs_1043 ?rest_1043; (case h2_1043 => kernel_rfl); (case h3_1043 => kernel_rfl); (case ho_1043 => (simp only [List.getElem?_toArray, List.getElem?_cons_zero, List.getElem?_cons_succ]; rfl)); (case h1_1043 => kernel_rfl); (case hq_1043 => exact fun _ _ _ h => h); (case hw_1043 => rfl); (case hy_1043 => (intro w' hSw; (try simp only [S] at hSw); go_simp; (try with_reducible rfl))); (case hs_1043 => assumption); (try simp only [Act.put, List.setIfInBounds_toArray, List.set_cons_zero, List.set_cons_succ])
        refine wpAnyH_take (i := 15) (oi := ?oi_1050) (v := ?v_1050) ?ho_1050 ?h1_1050 ?h2_1050 ?h3_1050 ?hq_1050 (Or.inl ⟨?hw_1050, ?hy_1050⟩) ?hs_1050 ?rest_1050; (case h2_1050 => kernel_rfl); (case h3_1050 => kernel_rfl); (case ho_1050 => (simp only [List.getElem?_toArray, List.getElem?_cons_zero, List.getElem?_cons_succ]; rfl)); (case h1_1050 => kernel_rfl); (case hq_1050 => exact fun _ _ _ h => h); (case hw_1050 => rfl); (case hy_1050 => (intro w' hSw; have hq := hSw.2.2; go_simp; (try with_reducible rfl))); (case hs_1050 => assumption); (try simp only [Act.put, List.setIfInBounds_toArray, List.set_cons_zero, List.set_cons_succ])
        refine wpAnyH_take (i := 16) (oi := ?oi_1044) (v := ?v_1044) ?ho_1044 ?h1_1044 ?h2_1044 ?h3_1044 ?hq_1044 (Or.inl ⟨?hw_1044, ?hy_1044⟩) ?hs_1044 ?rest_1044; (case h2_1044 => kernel_rfl); (case h3_1044 => kernel_rfl); (case ho_1044 => (simp only [List.getElem?_toArray, List.getElem?_cons_zero, List.getElem?_cons_succ]; rfl)); (case h1_1044 => kernel_rfl); (case hq_1044 => exact fun _ _ _ h => h); (case hw_1044 => rfl); (case hy_1044 => (intro w' hSw; (try simp only [S] at hSw); go_simp; (try with_reducible rfl))); (case hs_1044 => assumption); (try simp only [Act.put, List.setIfInBounds_toArray, List.set_cons_zero, List.set_cons_succ])
        have hYV : V.heap.size ≤ Y.heap.size := HX.out.2.1.size
        obtain ⟨tl2, ht4'⟩ : ∃ q, #[Value.int .u8 (IntKind.u8.wrap x.place), .int .u8 (IntKind.u8.wrap x.blocks), .int .u8 (IntKind.u8.wrap (x.refs / 256)), .int .u8 (IntKind.u8.wrap x.refs)] = q := ⟨_, rfl⟩
        rw [ht4'] at ht4
        refine wpAnyH_ready (rs := [3, 17]) (by kernel_rfl) (by simp) (AllReadyH.cons (o := ?oo3_1051) ?hoo3_1051 (fun K hK => ?step3) (AllReadyH.cons (o := ?oo17_1051) ?hoo17_1051 (fun K hK => ?step17) AllReadyH.nil)); (case hoo3_1051 => (simp only [List.getElem?_toArray, List.getElem?_cons_zero, List.getElem?_cons_succ]; rfl)); (case hoo17_1051 => (simp only [List.getElem?_toArray, List.getElem?_cons_zero, List.getElem?_cons_succ]; rfl))
        case step3 =>
          refine step_app _ rfl (.tmp 21) (.tmp 23) 22 rfl Try.underlying22 elemC rfl (own_drewN HX.out.1 1) rfl hxK.drew (oneCell_bvs _) (by simp only [maxLen]; omega) (by omega) (by exact hYV) ?_
          intro A24 c24 w24 hown24 hg24 hb24 hat24
          have hg24' : World.grownBy Y.drew w24 (Value.slice A4 m c4).ownBlock := hg24
          have hat24' : (Value.slice A24 (m + 32) c24).ownBlock = (Value.slice A4 m c4).ownBlock ∨ (Value.slice A24 (m + 32) c24).ownBlock = some Y.heap.size := hat24
          have hz24 : Y.heap.size ≤ w24.heap.size := hg24.size
          have hS1 : S w24 := ⟨(World.cell?_of_block (a := ⟨wr.heap.size, 32, none⟩) (hg24'.block wr.heap.size (by exact l6) (fun e => by have := hlt4 _ e.symm; omega))).trans hS0.1, (World.cell?_of_block (a := ⟨wr.heap.size, 33, none⟩) (hg24'.block wr.heap.size (by exact l6) (fun e => by have := hlt4 _ e.symm; omega))).trans hS0.2.1, (World.cell?_of_block (a := ⟨wr.heap.size, 34, none⟩) (hg24'.block wr.heap.size (by exact l6) (fun e => by have := hlt4 _ e.symm; omega))).trans hS0.2.2⟩
          refine hK.out _ _ hS1 (fun _ => ?_)
          clear hK K
          (try simp only [Act.put, List.setIfInBounds_toArray, List.set_cons_zero, List.set_cons_succ])
          have hS2 : S (w24.alloc (.cells tl2 5)) := ⟨((Below.refl w24.heap.size w24).alloc (Nat.le_refl _) _).cell (p := ⟨wr.heap.size, 32, none⟩) (show wr.heap.size < _ by omega) |>.trans hS1.1, ((Below.refl w24.heap.size w24).alloc (Nat.le_refl _) _).cell (p := ⟨wr.heap.size, 33, none⟩) (show wr.heap.size < _ by omega) |>.trans hS1.2.1, ((Below.refl w24.heap.size w24).alloc (Nat.le_refl _) _).cell (p := ⟨wr.heap.size, 34, none⟩) (show wr.heap.size < _ by omega) |>.trans hS1.2.2⟩
          refine wpAnyH_ready (rs := [17]) (by kernel_rfl) (by simp) (AllReadyH.cons (o := ?oo17_1052) ?hoo17_1052 (fun K hK => ?steponly1052) AllReadyH.nil); (case hoo17_1052 => (simp only [List.getElem?_toArray, List.getElem?_cons_zero, List.getElem?_cons_succ]; rfl))
          go_simp
          try rw [ht4']
          refine hK.out _ _ hS2 (fun _ => ?_)
          clear hK K
          (try simp only [Act.put, List.setIfInBounds_toArray, List.set_cons_zero, List.set_cons_succ])
          have hx38 : Sl (w24.alloc (.cells tl2 5)) (w24.alloc (.cells tl2 5)).heap.size 1 (some ⟨w24.heap.size, 0, none⟩) 4 (bvs tl) := by
            have := Sl.new (sz := 1) (n := 4) (heap_alloc_new w24 (.cells tl2 5)) (by rw [← ht4, bvs_len, htll])
            have e : tl2.toList = bvs tl := by rw [← ht4]
            rw [e] at this
            exact this
          refine wpAnyH_ready (rs := [18]) (by kernel_rfl) (by simp) (AllReadyH.cons (o := ?oo18_1053) ?hoo18_1053 (fun K hK => ?steponly1053) AllReadyH.nil); (case hoo18_1053 => (simp only [List.getElem?_toArray, List.getElem?_cons_zero, List.getElem?_cons_succ]; rfl))
          refine step_app _ rfl (.tmp 24) (.tmp 38) 22 rfl Try.underlying22 elemC rfl (hown24.alloc _) rfl hx38 (oneCell_bvs _) (by simp only [maxLen]; omega) (by omega) (by simp; omega) ?_
          intro A39 c39 w39 hown39 hg39 hb39 hat39
          have hne39 : ∀ q, (Value.slice A24 (m + 32) c24).ownBlock = some q → q ≠ wr.heap.size := fun q hq e => by
            rcases hat24' with h | h
            · rw [h] at hq; have := hlt4 q hq; omega
            · rw [h] at hq; injection hq with hq; omega
          have hg39' : World.grownBy (w24.alloc (.cells tl2 5)) w39 (Value.slice A24 (m + 32) c24).ownBlock := hg39
          have hS3 : S w39 := ⟨(World.cell?_of_block (a := ⟨wr.heap.size, 32, none⟩) (hg39'.block wr.heap.size (by simp; omega) (fun e => hne39 _ e.symm rfl))).trans hS2.1, (World.cell?_of_block (a := ⟨wr.heap.size, 33, none⟩) (hg39'.block wr.heap.size (by simp; omega) (fun e => hne39 _ e.symm rfl))).trans hS2.2.1, (World.cell?_of_block (a := ⟨wr.heap.size, 34, none⟩) (hg39'.block wr.heap.size (by simp; omega) (fun e => hne39 _ e.symm rfl))).trans hS2.2.2⟩
          refine hK.out _ _ hS3 (fun _ => ?_)
          clear hK K
          (try simp only [Act.put, List.setIfInBounds_toArray, List.set_cons_zero, List.set_cons_succ])
          have hB39 : Below V.heap.size V w39 := ((HX.out.2.1.drew.trans hb24).alloc (by have := HX.out.2.1.size; omega) _).trans hb39
          refine wpAnyH_take (i := 19) (oi := ?oi_1045) (v := ?v_1045) ?ho_1045 ?h1_1045 ?h2_1045 ?h3_1045 ?hq_1045 (Or.inl ⟨?hw_1045, ?hy_1045⟩) ?hs_1045 ?rest_1045; (case h2_1045 => kernel_rfl); (case h3_1045 => kernel_rfl); (case ho_1045 => (simp only [List.getElem?_toArray, List.getElem?_cons_zero, List.getElem?_cons_succ]; rfl)); (case h1_1045 => kernel_rfl); (case hq_1045 => exact fun _ _ _ h => h); (case hw_1045 => rfl); (case hy_1045 => (intro w' hSw; (try simp only [S] at hSw); go_simp; (try with_reducible rfl))); (case hs_1045 => assumption); (try simp only [Act.put, List.setIfInBounds_toArray, List.set_cons_zero, List.set_cons_succ])
          refine wpAnyH_done (by kernel_rfl) ?_ _
          rw [← bvs_append, ← bvs_append, HTL.out.symm, ← HX.out.2.2.1] at hown39
          have HF := Lib.hid (And.intro hown39 hB39)
          clear hown39 hB39
          go_wp2_with fail
          have hmm := HX.out.2.2.2.1
          refine ⟨⟨k + 1, by omega, by go_num, by rw [show 2 + (k + 1) * 36 = m + 32 + 4 by omega]; exact HF.out.1, HF.out.2⟩, by simp [intOf]; omega⟩
        case step17 =>
          have hbY1 : Below Y.heap.size Y (Y.drew.alloc (.cells tl2 5)) := ((Below.refl _ Y).drew).alloc (Nat.le_refl _) _
          have hS1 : S (Y.drew.alloc (.cells tl2 5)) := ⟨(hbY1.cell (p := ⟨wr.heap.size, 32, none⟩) l6).trans c32, (hbY1.cell (p := ⟨wr.heap.size, 33, none⟩) l6).trans c33, (hbY1.cell (p := ⟨wr.heap.size, 34, none⟩) l6).trans c34⟩
          go_simp
          try rw [ht4']
          refine hK.out _ _ hS1 (fun _ => ?_)
          clear hK K
          (try simp only [Act.put, List.setIfInBounds_toArray, List.set_cons_zero, List.set_cons_succ])
          have own1 := own_below HX.out.1 hbY1
          have hxK1 := hxK.below hbY1
          have b38 : (Y.drew.alloc (.cells tl2 5)).heap[Y.heap.size]? = some (.cells tl2 5) := heap_alloc_new Y.drew _
          refine wpAnyH_ready (rs := [3]) (by kernel_rfl) (by simp) (AllReadyH.cons (o := ?oo3_1054) ?hoo3_1054 (fun K hK => ?steponly1054) AllReadyH.nil); (case hoo3_1054 => (simp only [List.getElem?_toArray, List.getElem?_cons_zero, List.getElem?_cons_succ]; rfl))
          refine step_app _ rfl (.tmp 21) (.tmp 23) 22 rfl Try.underlying22 elemC rfl own1 rfl hxK1 (oneCell_bvs _) (by simp only [maxLen]; omega) (by omega) (by simp; omega) ?_
          intro A24 c24 w24 hown24 hg24 hb24 hat24
          have hg24' : World.grownBy (Y.drew.alloc (.cells tl2 5)) w24 (Value.slice A4 m c4).ownBlock := hg24
          have hat24' : (Value.slice A24 (m + 32) c24).ownBlock = (Value.slice A4 m c4).ownBlock ∨ (Value.slice A24 (m + 32) c24).ownBlock = some (Y.drew.alloc (.cells tl2 5)).heap.size := hat24
          have hz24 : Y.heap.size + 1 ≤ w24.heap.size := by have := hg24'.size; simpa using this
          have hS2 : S w24 := ⟨(World.cell?_of_block (a := ⟨wr.heap.size, 32, none⟩) (hg24'.block wr.heap.size (by simp; omega) (fun e => by have := hlt4 _ e.symm; omega))).trans hS1.1, (World.cell?_of_block (a := ⟨wr.heap.size, 33, none⟩) (hg24'.block wr.heap.size (by simp; omega) (fun e => by have := hlt4 _ e.symm; omega))).trans hS1.2.1, (World.cell?_of_block (a := ⟨wr.heap.size, 34, none⟩) (hg24'.block wr.heap.size (by simp; omega) (fun e => by have := hlt4 _ e.symm; omega))).trans hS1.2.2⟩
          have b38' : w24.heap[Y.heap.size]? = some (.cells tl2 5) := (hg24'.block _ (by simp) (fun e => by have := hlt4 _ e.symm; omega)).trans b38
          refine hK.out _ _ hS2 (fun _ => ?_)
          clear hK K
          (try simp only [Act.put, List.setIfInBounds_toArray, List.set_cons_zero, List.set_cons_succ])
          have hx38 : Sl w24 w24.heap.size 1 (some ⟨Y.heap.size, 0, none⟩) 4 (bvs tl) := by
            have := Sl.new (sz := 1) (n := 4) b38' (by rw [← ht4, bvs_len, htll])
            rw [← ht4] at this
            exact this
          refine wpAnyH_ready (rs := [18]) (by kernel_rfl) (by simp) (AllReadyH.cons (o := ?oo18_1055) ?hoo18_1055 (fun K hK => ?steponly1055) AllReadyH.nil); (case hoo18_1055 => (simp only [List.getElem?_toArray, List.getElem?_cons_zero, List.getElem?_cons_succ]; rfl))
          refine step_app _ rfl (.tmp 24) (.tmp 38) 22 rfl Try.underlying22 elemC rfl hown24 rfl hx38 (oneCell_bvs _) (by simp only [maxLen]; omega) (by omega) (by omega) ?_
          intro A39 c39 w39 hown39 hg39 hb39 hat39
          have hne39 : ∀ q, (Value.slice A24 (m + 32) c24).ownBlock = some q → q ≠ wr.heap.size := fun q hq e => by
            rcases hat24' with h | h
            · rw [h] at hq; have := hlt4 q hq; omega
            · rw [h] at hq; injection hq with hq; simp at hq; omega
          have hg39' : World.grownBy w24 w39 (Value.slice A24 (m + 32) c24).ownBlock := hg39
          have hS3 : S w39 := ⟨(World.cell?_of_block (a := ⟨wr.heap.size, 32, none⟩) (hg39'.block wr.heap.size (by omega) (fun e => hne39 _ e.symm rfl))).trans hS2.1, (World.cell?_of_block (a := ⟨wr.heap.size, 33, none⟩) (hg39'.block wr.heap.size (by omega) (fun e => hne39 _ e.symm rfl))).trans hS2.2.1, (World.cell?_of_block (a := ⟨wr.heap.size, 34, none⟩) (hg39'.block wr.heap.size (by omega) (fun e => hne39 _ e.symm rfl))).trans hS2.2.2⟩
          refine hK.out _ _ hS3 (fun _ => ?_)
          clear hK K
          (try simp only [Act.put, List.setIfInBounds_toArray, List.set_cons_zero, List.set_cons_succ])
          have hB39 : Below V.heap.size V w39 := ((HX.out.2.1.trans (hbY1.mono hYV)).trans hb24).trans hb39
          refine wpAnyH_take (i := 19) (oi := ?oi_1046) (v := ?v_1046) ?ho_1046 ?h1_1046 ?h2_1046 ?h3_1046 ?hq_1046 (Or.inl ⟨?hw_1046, ?hy_1046⟩) ?hs_1046 ?rest_1046; (case h2_1046 => kernel_rfl); (case h3_1046 => kernel_rfl); (case ho_1046 => (simp only [List.getElem?_toArray, List.getElem?_cons_zero, List.getElem?_cons_succ]; rfl)); (case h1_1046 => kernel_rfl); (case hq_1046 => exact fun _ _ _ h => h); (case hw_1046 => rfl); (case hy_1046 => (intro w' hSw; (try simp only [S] at hSw); go_simp; (try with_reducible rfl))); (case hs_1046 => assumption); (try simp only [Act.put, List.setIfInBounds_toArray, List.set_cons_zero, List.set_cons_succ])
          refine wpAnyH_done (by kernel_rfl) ?_ _
          rw [← bvs_append, ← bvs_append, HTL.out.symm, ← HX.out.2.2.1] at hown39
          have HF := Lib.hid (And.intro hown39 hB39)
          clear hown39 hB39
          go_wp2_with fail
          have hmm := HX.out.2.2.2.1
          refine ⟨⟨k + 1, by omega, by go_num, by rw [show 2 + (k + 1) * 36 = m + 32 + 4 by omega]; exact HF.out.1, HF.out.2⟩, by simp [intOf]; omega⟩
      · obtain rfl : k = n := by omega
        have hi1 : ¬ (k : Int) < (k : Int) := by omega
        rw [lfTo_all HN.out] at hown
        have hbl : (lfB l).length = 2 + k * 36 := by rw [lfB_len H1.out.2.2.ok, HN.out]; 
        obtain ⟨m, hm⟩ : ∃ m, 2 + k * 36 = m := ⟨_, rfl⟩
        have hm124 : m ≤ 124 := by omega
        rw [hm] at hown hbl
        rw [hm]
        have hsl := sealed_any (c := c4) wr (Sl.of_own hown) hbl hm124
        have a2 := bBlk hbr l3 H1.out.1
        have hB := bNext H1.out.2.1 hbr
        have l4 := (Array.getElem?_eq_some_iff.1 a2).1
        have e1 : lfEnc l = sealB (lfB l) := by unfold lfEnc; rw [HG.out.1, if_pos rfl]
        have e2 : (sealB (lfB l)).length = 128 := sealB_len (by rw [hbl]; exact hm124)
        unfold bkv at hsl
        obtain ⟨P, hP⟩ : ∃ q, sealB (lfB l) = q := ⟨_, rfl⟩
        rw [hP] at hsl e1 e2
        have HE := Lib.hid (And.intro e1 (And.intro hB a2))
        have hpi := bk_info e2
        have hps : (bvs P).toArray.size = zb.size := by rw [List.size_toArray, bvs_len, e2, hzs]
        have hp1 := oneCell_bvs P
        clear hown hbr hbl hm hB a2 e1 hP hm124
        go_upto_region 9 with (fail)
        go_wp2_with fail
        refine Calls.mono hsl ?_
        rintro e Z ⟨rfl, hbZ⟩
        clear hsl
        have a2 := bBlk hbZ l4 HE.out.2.2
        have hB := bNext HE.out.2.1 hbZ
        have HB := Lib.hid hB
        clear hB hbZ
        go_wp2_with (first
          | (refine wpList_store_row rfl 40 (.tmp 2) (.tmp 42) rfl _ (bvs P).toArray rfl rfl _ zb a2 hpi hps.symm (all_oneCell_toArray hp1) ?_)
          | fail)
        generalize hX : World.setRow _ _ _ = X9
        have b9 : X9.heap[w.heap.size]? = some (.cells (bvs P).toArray 40) := by rw [← hX]; exact setRow_heap _ _ _ _ _ _ a2
        have hBX : Below w.heap.size w X9 := by rw [← hX]; exact bSetRow HB.out (Nat.le_refl _) _
        clear hX
        have hld := run_loadVar_row (P := Try.prog) X9 _ _ 40 _ _ _ b9 Try.underlying40 rfl hpi
        refine bodyPost_ret (by simp [results, Try.results24, Act.put, asAddr, Result.andThen, hld]; try rfl) rfl ?_
        exact Ret.mk (by rw [HE.out.1, HG.out.1]; rfl) hBX
end Go.Proofs.Ythmjkgpfnpdddaa
