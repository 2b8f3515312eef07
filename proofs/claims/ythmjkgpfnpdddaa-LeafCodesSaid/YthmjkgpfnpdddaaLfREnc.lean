/- The walk over the reference's Encode. -/
import Derived.Test.YthmjkgpfnpdddaaLfEnc
import Derived.Test.YthmjkgpfnpdddaaLfRef1
import Derived.Test.YthmjkgpfnpdddaaLfRSeal
namespace Go.Proofs.Ythmjkgpfnpdddaa
set_option linter.unusedSimpArgs false
set_option linter.unusedVariables false
open Go.RowKit Go.ChangeShapes Go.WideShapes Go.Sort

attribute [-go_sem] Builtin.append_
set_option maxHeartbeats 16000000 in
set_option maxRecDepth 100000 in
theorem rlenc_any {A : Option Addr} {n c : Nat} {l : List EN} (w : World) (h : LfAt w w.heap.size A n c l) (hn6 : n ≤ 1000000) : Calls Try.prog 25 #[.slice A n c] w (Ret w (.tuple #[bkv (lfEnc l), .int .i64 (erE (goodE l))])) := by
  have hgd := fun W (k : LfAt W W.heap.size A n c l) => rgood_any W k hn6
  have HS := Lib.hid h
  have HN := Lib.hid h.len
  clear h
  unfold bkv
  go_enter Try.func25, Try.ntmps25
  obtain ⟨zb, hzb⟩ : ∃ q, (bvs zblk).toArray = q := ⟨_, rfl⟩
  have hbz := blkZ
  have hb0 := built_blk0
  have hzs : zb.size = 128 := by rw [← hzb, List.size_toArray, bvs_len, zblk_len]
  have hzi : (Try.prog.info? 40).map (·.size) = some zb.size := by rw [hzs]; exact bk_size
  have hz1 : (zb.all fun x => x.oneCell') = true := by rw [← hzb]; exact all_oneCell_toArray (oneCell_bvs _)
  rw [hzb] at hbz hb0
  have HZ := Lib.hid hzb
  clear hzb
  go_upto_region 1 with (first | (refine wpList_new rfl hbz rfl ?_) | fail)
  obtain ⟨W, hW⟩ : ∃ q, w.alloc (.cells zb 40) = q := ⟨_, rfl⟩
  have a2 : W.heap[w.heap.size]? = some (.cells zb 40) := by rw [← hW]; exact heap_alloc_new _ _
  have hB : Below w.heap.size w W := by rw [← hW]; exact (Below.refl _ _).alloc (Nat.le_refl _) _
  try rw [hW]
  clear hW
  have hgd' := hgd W (HS.out.nxt hB)
  have l2 := (Array.getElem?_eq_some_iff.1 a2).1
  have HA := Lib.hid (And.intro a2 hB)
  clear a2 hB hgd
  go_wp2_with fail
  refine Calls.mono hgd' ?_
  rintro e V ⟨rfl, hbV⟩
  have a2 := bBlk hbV l2 HA.out.1
  have hB := bNext HA.out.2 hbV
  have hl := HS.out.nxt hB
  have l3 := (Array.getElem?_eq_some_iff.1 a2).1
  clear HA hgd' hbV l2
  cases hg : goodE l
  · have e1 : lfEnc l = zblk := by unfold lfEnc; rw [hg]; rfl
    have HE := Lib.hid (And.intro e1 hB)
    have HG := Lib.hid hg
    clear e1 hB hl hg
    go_wp2_with (first
      | (refine wpList_built rfl 40 #[] rfl (cs := zb) (by simp only [List.map_toArray, List.map_nil]; exact hb0) ?_)
      | (refine wpList_store_row rfl 40 (.tmp 2) (.tmp 9) rfl _ zb rfl rfl _ zb a2 hzi rfl hz1 ?_)
      | fail)
    generalize hX : World.setRow _ _ _ = X9
    have b9 : X9.heap[w.heap.size]? = some (.cells zb 40) := by rw [← hX]; exact setRow_heap _ _ _ _ _ _ a2
    have hBX : Below w.heap.size w X9 := by rw [← hX]; exact bSetRow HE.out.2 (Nat.le_refl _) _
    clear hX
    have hld := run_loadVar_row (P := Try.prog) X9 _ _ 40 _ _ _ b9 Try.underlying40 rfl hzi
    refine bodyPost_ret (by simp [results, Try.results25, Act.put, asAddr, Result.andThen, hld]; try rfl) rfl ?_
    exact Ret.mk (by rw [HE.out.1, HZ.out, HG.out]; rfl) hBX
  · obtain ⟨⟨n1, n3⟩, hto⟩ := goodE_iff.1 hg
    rw [HN.out] at n1 n3 hto
    have HG := Lib.hid (And.intro hg hto)
    have hoc : (bvs [76, u8 (n : Int)]).toArray = #[Value.int .u8 76, .int .u8 (n : Int)] := by
      simp only [bvs, List.map_cons, List.map_nil, bv_u8]
      rw [Int.emod_eq_of_lt (by omega) (by omega)]
      rfl
    have H1 := Lib.hid (And.intro a2 (And.intro hB hl))
    clear hg hto a2 hB hl
    go_upto_region 4 with (fail)
    obtain ⟨W1, hW1⟩ : ∃ q, V.alloc (.cells (bvs [76, u8 (n : Int)]).toArray 5) = q := ⟨_, rfl⟩
    have b1 : W1.heap[V.heap.size]? = some (.cells (bvs [76, u8 (n : Int)]).toArray 5) := by rw [← hW1]; exact heap_alloc_new _ _
    have hbW1 : Below V.heap.size V W1 := by rw [← hW1]; exact (Below.refl _ _).alloc (Nat.le_refl _) _
    rw [hoc] at hW1
    try rw [hW1]
    have own0 := own_lit (W := W1) (base := V.heap.size) (n := 2) (cs := bvs [76, u8 (n : Int)]) (t := 5) (Nat.le_refl _) b1 (by rw [bvs_len]; rfl) (by simp [maxLen])
    have hwV : w.heap.size < V.heap.size := l3
    clear hW1 b1 hoc
    go_wp2_with fail
    go_loopw [4, 5] (fun sb si wr => ∃ k : Nat, k ≤ n ∧ si = .int .i64 k ∧ wr.ownsRow V.heap.size 5 1 sb (2 + k * 36) (bvs (lfTo n l k)) ∧ Below V.heap.size V wr) (fun _ i _ => n - (intOf i).toNat)
    case atStart => exact ⟨0, by omega, rfl, by rw [lfTo_zero]; exact own0, hbW1⟩
    case round =>
      clear own0 hbW1
      obtain ⟨k, hk, rfl, hown, hbr⟩ := hrel
      obtain ⟨A4, c4, rfl, -⟩ := own_form hown
      by_cases hlt : k < n
      · obtain ⟨x, hx⟩ : ∃ x, l[k]? = some x := ⟨_, List.getElem?_eq_getElem (by rw [HN.out]; exact hlt)⟩
        have hxo := H1.out.2.2.ok x (List.mem_of_getElem? hx)
        obtain ⟨b, o, rfl, hbB, hxr⟩ := H1.out.2.2.entry hx
        have hzr := hbr.size
        replace hxr := bRange hbr (by omega) hxr
        have hx1 : x.one = true := by
          obtain ⟨y, ey, hy, -⟩ := HG.out.2 k hlt
          rw [hx] at ey
          injection ey with ey
          rw [ey]; exact hy
        have ht4 := tail4 x
        obtain ⟨p1, p2, p3, p4, p5, p6, p7⟩ := (EN.one_iff x).1 hx1
        have hls := lfTo_succ (n := n) hx
        have hi1 : (k : Int) < (n : Int) := by omega
        obtain ⟨m, hm⟩ : ∃ m, 2 + k * 36 = m := ⟨_, rfl⟩
        have hmb : m ≤ 200 := by omega
        have hkl := hxo.key
        obtain ⟨rk, c32, c33, c34⟩ := en_range hxo hxr
        have hbV : b < V.heap.size := by omega
        have hbl : b < wr.heap.size := by omega
        rw [hm] at hown
        rw [hm]
        have HX := Lib.hid (And.intro hown (And.intro hbr (And.intro hls hm)))
        clear hown hbr hxo hx hx1 hls hm hxr
        go_upto_region 7 with (fail)
        (try simp only [Act.put, List.setIfInBounds_toArray, List.set_cons_zero, List.set_cons_succ])
        have hxK : Sl wr wr.heap.size 1 (some ⟨b, o + k * 35, none⟩) 32 (bvs x.key) := ⟨by rw [bvs_len, hkl], fun _ => ⟨b, o + k * 35, rfl, hbl, rk⟩⟩
        obtain ⟨tl, htl⟩ : ∃ q, [u8 x.place, u8 x.blocks, u8 (x.refs / 256), u8 x.refs] = q := ⟨_, rfl⟩
        have htll : tl.length = 4 := by rw [← htl]; rfl
        rw [htl] at ht4
        have HTL := Lib.hid htl
        clear htl
        let S : World → Prop := fun w' => w'.cell? ⟨b, o + k * 35 + 32, none⟩ = some (.int .i64 x.place) ∧ w'.cell? ⟨b, o + k * 35 + 33, none⟩ = some (.int .i64 x.blocks) ∧ w'.cell? ⟨b, o + k * 35 + 34, none⟩ = some (.int .i64 x.refs)
        have hS0 : S wr.drew := ⟨c32, c33, c34⟩
        have hSS : ∀ u u' : World, Below V.heap.size u u' → S u → S u' := fun u u' q h => ⟨(q.cell (p := ⟨b, o + k * 35 + 32, none⟩) hbV).trans h.1, (q.cell (p := ⟨b, o + k * 35 + 33, none⟩) hbV).trans h.2.1, (q.cell (p := ⟨b, o + k * 35 + 34, none⟩) hbV).trans h.2.2⟩
        clear c32 c33 c34 rk
        obtain ⟨tl2, ht4'⟩ : ∃ q, #[Value.int .u8 (IntKind.u8.wrap x.place), .int .u8 (IntKind.u8.wrap x.blocks), .int .u8 (IntKind.u8.wrap (x.refs / 256)), .int .u8 (IntKind.u8.wrap x.refs)] = q := ⟨_, rfl⟩
        rw [ht4'] at ht4
        refine wp_region_held (S := S) (by kernel_rfl) ?_
        change wpAnyH _ _ _ _ S _ _ _ wr.drew
        refine wpAnyH_take (i := 0) (oi := ?oi_1056) (v := ?v_1056) ?ho_1056 ?h1_1056 ?h2_1056 ?h3_1056 ?hq_1056 (Or.inl ⟨?hw_1056, ?hy_1056⟩) ?hs_1056 ?rest_1056; (case h2_1056 => kernel_rfl); (case h3_1056 => kernel_rfl); (case ho_1056 => (simp only [List.getElem?_toArray, List.getElem?_cons_zero, List.getElem?_cons_succ]; rfl)); (case h1_1056 => kernel_rfl); (case hq_1056 => exact fun _ _ _ h => h); (case hw_1056 => rfl); (case hy_1056 => (intro w' hSw; (try simp only [S] at hSw); go_simp; (try with_reducible rfl))); (case hs_1056 => assumption); (try simp only [Act.put, List.setIfInBounds_toArray, List.set_cons_zero, List.set_cons_succ])
        refine wpAnyH_take (i := 1) (oi := ?oi_1057) (v := ?v_1057) ?ho_1057 ?h1_1057 ?h2_1057 ?h3_1057 ?hq_1057 (Or.inl ⟨?hw_1057, ?hy_1057⟩) ?hs_1057 ?rest_1057; (case h2_1057 => kernel_rfl); (case h3_1057 => kernel_rfl); (case ho_1057 => (simp only [List.getElem?_toArray, List.getElem?_cons_zero, List.getElem?_cons_succ]; rfl)); (case h1_1057 => kernel_rfl); (case hq_1057 => exact fun _ _ _ h => h); (case hw_1057 => rfl); (case hy_1057 => (intro w' hSw; (try simp only [S] at hSw); go_simp; (try with_reducible rfl))); (case hs_1057 => assumption); (try simp only [Act.put, List.setIfInBounds_toArray, List.set_cons_zero, List.set_cons_succ])
        refine wpAnyH_take (i := 2) (oi := ?oi_1058) (v := ?v_1058) ?ho_1058 ?h1_1058 ?h2_1058 ?h3_1058 ?hq_1058 (Or.inl ⟨?hw_1058, ?hy_1058⟩) ?hs_1058 ?rest_1058; (case h2_1058 => kernel_rfl); (case h3_1058 => kernel_rfl); (case ho_1058 => (simp only [List.getElem?_toArray, List.getElem?_cons_zero, List.getElem?_cons_succ]; rfl)); (case h1_1058 => kernel_rfl); (case hq_1058 => exact fun _ _ _ h => h); (case hw_1058 => rfl); (case hy_1058 => (intro w' hSw; (try simp only [S] at hSw); go_simp; (try with_reducible rfl))); (case hs_1058 => assumption); (try simp only [Act.put, List.setIfInBounds_toArray, List.set_cons_zero, List.set_cons_succ])
        refine wpAnyH_take (i := 3) (oi := ?oi_1059) (v := ?v_1059) ?ho_1059 ?h1_1059 ?h2_1059 ?h3_1059 ?hq_1059 (Or.inl ⟨?hw_1059, ?hy_1059⟩) ?hs_1059 ?rest_1059; (case h2_1059 => kernel_rfl); (case h3_1059 => kernel_rfl); (case ho_1059 => (simp only [List.getElem?_toArray, List.getElem?_cons_zero, List.getElem?_cons_succ]; rfl)); (case h1_1059 => kernel_rfl); (case hq_1059 => exact fun _ _ _ h => h); (case hw_1059 => rfl); (case hy_1059 => (intro w' hSw; (try simp only [S] at hSw); go_simp; (try with_reducible rfl))); (case hs_1059 => assumption); (try simp only [Act.put, List.setIfInBounds_toArray, List.set_cons_zero, List.set_cons_succ])
        refine wpAnyH_take (i := 4) (oi := ?oi_1060) (v := ?v_1060) ?ho_1060 ?h1_1060 ?h2_1060 ?h3_1060 ?hq_1060 (Or.inl ⟨?hw_1060, ?hy_1060⟩) ?hs_1060 ?rest_1060; (case h2_1060 => kernel_rfl); (case h3_1060 => kernel_rfl); (case ho_1060 => (simp only [List.getElem?_toArray, List.getElem?_cons_zero, List.getElem?_cons_succ]; rfl)); (case h1_1060 => kernel_rfl); (case hq_1060 => exact fun _ _ _ h => h); (case hw_1060 => rfl); (case hy_1060 => (intro w' hSw; (try simp only [S] at hSw); go_simp; (try with_reducible rfl))); (case hs_1060 => assumption); (try simp only [Act.put, List.setIfInBounds_toArray, List.set_cons_zero, List.set_cons_succ])
        refine wpAnyH_take (i := 5) (oi := ?oi_1061) (v := ?v_1061) ?ho_1061 ?h1_1061 ?h2_1061 ?h3_1061 ?hq_1061 (Or.inl ⟨?hw_1061, ?hy_1061⟩) ?hs_1061 ?rest_1061; (case h2_1061 => kernel_rfl); (case h3_1061 => kernel_rfl); (case ho_1061 => (simp only [List.getElem?_toArray, List.getElem?_cons_zero, List.getElem?_cons_succ]; rfl)); (case h1_1061 => kernel_rfl); (case hq_1061 => exact fun _ _ _ h => h); (case hw_1061 => rfl); (case hy_1061 => (intro w' hSw; (try simp only [S] at hSw); go_simp; (try with_reducible rfl))); (case hs_1061 => assumption); (try simp only [Act.put, List.setIfInBounds_toArray, List.set_cons_zero, List.set_cons_succ])
        refine wpAnyH_take (i := 7) (oi := ?oi_1062) (v := ?v_1062) ?ho_1062 ?h1_1062 ?h2_1062 ?h3_1062 ?hq_1062 (Or.inl ⟨?hw_1062, ?hy_1062⟩) ?hs_1062 ?rest_1062; (case h2_1062 => kernel_rfl); (case h3_1062 => kernel_rfl); (case ho_1062 => (simp only [List.getElem?_toArray, List.getElem?_cons_zero, List.getElem?_cons_succ]; rfl)); (case h1_1062 => kernel_rfl); (case hq_1062 => exact fun _ _ _ h => h); (case hw_1062 => rfl); (case hy_1062 => (intro w' hSw; (try simp only [S] at hSw); go_simp; (try with_reducible rfl))); (case hs_1062 => assumption); (try simp only [Act.put, List.setIfInBounds_toArray, List.set_cons_zero, List.set_cons_succ])
        refine wpAnyH_take (i := 8) (oi := ?oi_1063) (v := ?v_1063) ?ho_1063 ?h1_1063 ?h2_1063 ?h3_1063 ?hq_1063 (Or.inl ⟨?hw_1063, ?hy_1063⟩) ?hs_1063 ?rest_1063; (case h2_1063 => kernel_rfl); (case h3_1063 => kernel_rfl); (case ho_1063 => (simp only [List.getElem?_toArray, List.getElem?_cons_zero, List.getElem?_cons_succ]; rfl)); (case h1_1063 => kernel_rfl); (case hq_1063 => exact fun _ _ _ h => h); (case hw_1063 => rfl); (case hy_1063 => (intro w' hSw; (try simp only [S] at hSw); go_simp; (try with_reducible rfl))); (case hs_1063 => assumption); (try simp only [Act.put, List.setIfInBounds_toArray, List.set_cons_zero, List.set_cons_succ])
        refine wpAnyH_take (i := 9) (oi := ?oi_1064) (v := ?v_1064) ?ho_1064 ?h1_1064 ?h2_1064 ?h3_1064 ?hq_1064 (Or.inl ⟨?hw_1064, ?hy_1064⟩) ?hs_1064 ?rest_1064; (case h2_1064 => kernel_rfl); (case h3_1064 => kernel_rfl); (case ho_1064 => (simp only [List.getElem?_toArray, List.getElem?_cons_zero, List.getElem?_cons_succ]; rfl)); (case h1_1064 => kernel_rfl); (case hq_1064 => exact fun _ _ _ h => h); (case hw_1064 => rfl); (case hy_1064 => (intro w' hSw; (try simp only [S] at hSw); go_simp; (try with_reducible rfl))); (case hs_1064 => assumption); (try simp only [Act.put, List.setIfInBounds_toArray, List.set_cons_zero, List.set_cons_succ])
        refine wpAnyH_take (i := 10) (oi := ?oi_1065) (v := ?v_1065) ?ho_1065 ?h1_1065 ?h2_1065 ?h3_1065 ?hq_1065 (Or.inl ⟨?hw_1065, ?hy_1065⟩) ?hs_1065 ?rest_1065; (case h2_1065 => kernel_rfl); (case h3_1065 => kernel_rfl); (case ho_1065 => (simp only [List.getElem?_toArray, List.getElem?_cons_zero, List.getElem?_cons_succ]; rfl)); (case h1_1065 => kernel_rfl); (case hq_1065 => exact fun _ _ _ h => h); (case hw_1065 => rfl); (case hy_1065 => (intro w' hSw; (try simp only [S] at hSw); go_simp; (try with_reducible rfl))); (case hs_1065 => assumption); (try simp only [Act.put, List.setIfInBounds_toArray, List.set_cons_zero, List.set_cons_succ])
        refine wpAnyH_take (i := 11) (oi := ?oi_1085) (v := ?v_1085) ?ho_1085 ?h1_1085 ?h2_1085 ?h3_1085 ?hq_1085 (Or.inl ⟨?hw_1085, ?hy_1085⟩) ?hs_1085 ?rest_1085; (case h2_1085 => kernel_rfl); (case h3_1085 => kernel_rfl); (case ho_1085 => (simp only [List.getElem?_toArray, List.getElem?_cons_zero, List.getElem?_cons_succ]; rfl)); (case h1_1085 => kernel_rfl); (case hq_1085 => exact fun _ _ _ h => h); (case hw_1085 => rfl); (case hy_1085 => (intro w' hSw; have hq := hSw.1; go_simp; (try with_reducible rfl))); (case hs_1085 => assumption); (try simp only [Act.put, List.setIfInBounds_toArray, List.set_cons_zero, List.set_cons_succ])
        refine wpAnyH_take (i := 12) (oi := ?oi_1066) (v := ?v_1066) ?ho_1066 ?h1_1066 ?h2_1066 ?h3_1066 ?hq_1066 (Or.inl ⟨?hw_1066, ?hy_1066⟩) ?hs_1066 ?rest_1066; (case h2_1066 => kernel_rfl); (case h3_1066 => kernel_rfl); (case ho_1066 => (simp only [List.getElem?_toArray, List.getElem?_cons_zero, List.getElem?_cons_succ]; rfl)); (case h1_1066 => kernel_rfl); (case hq_1066 => exact fun _ _ _ h => h); (case hw_1066 => rfl); (case hy_1066 => (intro w' hSw; (try simp only [S] at hSw); go_simp; (try with_reducible rfl))); (case hs_1066 => assumption); (try simp only [Act.put, List.setIfInBounds_toArray, List.set_cons_zero, List.set_cons_succ])
        refine wpAnyH_take (i := 13) (oi := ?oi_1067) (v := ?v_1067) ?ho_1067 ?h1_1067 ?h2_1067 ?h3_1067 ?hq_1067 (Or.inl ⟨?hw_1067, ?hy_1067⟩) ?hs_1067 ?rest_1067; (case h2_1067 => kernel_rfl); (case h3_1067 => kernel_rfl); (case ho_1067 => (simp only [List.getElem?_toArray, List.getElem?_cons_zero, List.getElem?_cons_succ]; rfl)); (case h1_1067 => kernel_rfl); (case hq_1067 => exact fun _ _ _ h => h); (case hw_1067 => rfl); (case hy_1067 => (intro w' hSw; (try simp only [S] at hSw); go_simp; (try with_reducible rfl))); (case hs_1067 => assumption); (try simp only [Act.put, List.setIfInBounds_toArray, List.set_cons_zero, List.set_cons_succ])
        refine wpAnyH_take (i := 14) (oi := ?oi_1068) (v := ?v_1068) ?ho_1068 ?h1_1068 ?h2_1068 ?h3_1068 ?hq_1068 (Or.inl ⟨?hw_1068, ?hy_1068⟩) ?hs_1068 ?rest_1068; (case h2_1068 => kernel_rfl); (case h3_1068 => kernel_rfl); (case ho_1068 => (simp only [List.getElem?_toArray, List.getElem?_cons_zero, List.getElem?_cons_succ]; rfl)); (case h1_1068 => kernel_rfl); (case hq_1068 => exact fun _ _ _ h => h); (case hw_1068 => rfl); (case hy_1068 => (intro w' hSw; (try simp only [S] at hSw); go_simp; (try with_reducible rfl))); (case hs_1068 => assumption); (try simp only [Act.put, List.setIfInBounds_toArray, List.set_cons_zero, List.set_cons_succ])
        refine wpAnyH_take (i := 15) (oi := ?oi_1069) (v := ?v_1069) ?ho_1069 ?h1_1069 ?h2_1069 ?h3_1069 ?hq_1069 (Or.inl ⟨?hw_1069, ?hy_1069⟩) ?hs_1069 ?rest_1069; (case h2_1069 => kernel_rfl); (case h3_1069 => kernel_rfl); (case ho_1069 => (simp only [List.getElem?_toArray, List.getElem?_cons_zero, List.getElem?_cons_succ]; rfl)); (case h1_1069 => kernel_rfl); (case hq_1069 => exact fun _ _ _ h => h); (case hw_1069 => rfl); (case hy_1069 => (intro w' hSw; (try simp only [S] at hSw); go_simp; (try with_reducible rfl))); (case hs_1069 => assumption); (try simp only [Act.put, List.setIfInBounds_toArray, List.set_cons_zero, List.set_cons_succ])
        refine wpAnyH_take (i := 16) (oi := ?oi_1070) (v := ?v_1070) ?ho_1070 ?h1_1070 ?h2_1070 ?h3_1070 ?hq_1070 (Or.inl ⟨?hw_1070, ?hy_1070⟩) ?hs_1070 ?rest_1070; (case h2_1070 => kernel_rfl); (case h3_1070 => kernel_rfl); (case ho_1070 => (simp only [List.getElem?_toArray, List.getElem?_cons_zero, List.getElem?_cons_succ]; rfl)); (case h1_1070 => kernel_rfl); (case hq_1070 => exact fun _ _ _ h => h); (case hw_1070 => rfl); (case hy_1070 => (intro w' hSw; (try simp only [S] at hSw); go_simp; (try with_reducible rfl))); (case hs_1070 => assumption); (try simp only [Act.put, List.setIfInBounds_toArray, List.set_cons_zero, List.set_cons_succ])
        refine wpAnyH_take (i := 17) (oi := ?oi_1086) (v := ?v_1086) ?ho_1086 ?h1_1086 ?h2_1086 ?h3_1086 ?hq_1086 (Or.inl ⟨?hw_1086, ?hy_1086⟩) ?hs_1086 ?rest_1086; (case h2_1086 => kernel_rfl); (case h3_1086 => kernel_rfl); (case ho_1086 => (simp only [List.getElem?_toArray, List.getElem?_cons_zero, List.getElem?_cons_succ]; rfl)); (case h1_1086 => kernel_rfl); (case hq_1086 => exact fun _ _ _ h => h); (case hw_1086 => rfl); (case hy_1086 => (intro w' hSw; have hq := hSw.2.1; go_simp; (try with_reducible rfl))); (case hs_1086 => assumption); (try simp only [Act.put, List.setIfInBounds_toArray, List.set_cons_zero, List.set_cons_succ])
        refine wpAnyH_take (i := 18) (oi := ?oi_1071) (v := ?v_1071) ?ho_1071 ?h1_1071 ?h2_1071 ?h3_1071 ?hq_1071 (Or.inl ⟨?hw_1071, ?hy_1071⟩) ?hs_1071 ?rest_1071; (case h2_1071 => kernel_rfl); (case h3_1071 => kernel_rfl); (case ho_1071 => (simp only [List.getElem?_toArray, List.getElem?_cons_zero, List.getElem?_cons_succ]; rfl)); (case h1_1071 => kernel_rfl); (case hq_1071 => exact fun _ _ _ h => h); (case hw_1071 => rfl); (case hy_1071 => (intro w' hSw; (try simp only [S] at hSw); go_simp; (try with_reducible rfl))); (case hs_1071 => assumption); (try simp only [Act.put, List.setIfInBounds_toArray, List.set_cons_zero, List.set_cons_succ])
        refine wpAnyH_take (i := 19) (oi := ?oi_1072) (v := ?v_1072) ?ho_1072 ?h1_1072 ?h2_1072 ?h3_1072 ?hq_1072 (Or.inl ⟨?hw_1072, ?hy_1072⟩) ?hs_1072 ?rest_1072; (case h2_1072 => kernel_rfl); (case h3_1072 => kernel_rfl); (case ho_1072 => (simp only [List.getElem?_toArray, List.getElem?_cons_zero, List.getElem?_cons_succ]; rfl)); (case h1_1072 => kernel_rfl); (case hq_1072 => exact fun _ _ _ h => h); (case hw_1072 => rfl); (case hy_1072 => (intro w' hSw; (try simp only [S] at hSw); go_simp; (try with_reducible rfl))); (case hs_1072 => assumption); (try simp only [Act.put, List.setIfInBounds_toArray, List.set_cons_zero, List.set_cons_succ])
        refine wpAnyH_take (i := 20) (oi := ?oi_1073) (v := ?v_1073) ?ho_1073 ?h1_1073 ?h2_1073 ?h3_1073 ?hq_1073 (Or.inl ⟨?hw_1073, ?hy_1073⟩) ?hs_1073 ?rest_1073; (case h2_1073 => kernel_rfl); (case h3_1073 => kernel_rfl); (case ho_1073 => (simp only [List.getElem?_toArray, List.getElem?_cons_zero, List.getElem?_cons_succ]; rfl)); (case h1_1073 => kernel_rfl); (case hq_1073 => exact fun _ _ _ h => h); (case hw_1073 => rfl); (case hy_1073 => (intro w' hSw; (try simp only [S] at hSw); go_simp; (try with_reducible rfl))); (case hs_1073 => assumption); (try simp only [Act.put, List.setIfInBounds_toArray, List.set_cons_zero, List.set_cons_succ])
        refine wpAnyH_take (i := 21) (oi := ?oi_1074) (v := ?v_1074) ?ho_1074 ?h1_1074 ?h2_1074 ?h3_1074 ?hq_1074 (Or.inl ⟨?hw_1074, ?hy_1074⟩) ?hs_1074 ?rest_1074; (case h2_1074 => kernel_rfl); (case h3_1074 => kernel_rfl); (case ho_1074 => (simp only [List.getElem?_toArray, List.getElem?_cons_zero, List.getElem?_cons_succ]; rfl)); (case h1_1074 => kernel_rfl); (case hq_1074 => exact fun _ _ _ h => h); (case hw_1074 => rfl); (case hy_1074 => (intro w' hSw; (try simp only [S] at hSw); go_simp; (try with_reducible rfl))); (case hs_1074 => assumption); (try simp only [Act.put, List.setIfInBounds_toArray, List.set_cons_zero, List.set_cons_succ])
        refine wpAnyH_take (i := 22) (oi := ?oi_1075) (v := ?v_1075) ?ho_1075 ?h1_1075 ?h2_1075 ?h3_1075 ?hq_1075 (Or.inl ⟨?hw_1075, ?hy_1075⟩) ?hs_1075 ?rest_1075; (case h2_1075 => kernel_rfl); (case h3_1075 => kernel_rfl); (case ho_1075 => (simp only [List.getElem?_toArray, List.getElem?_cons_zero, List.getElem?_cons_succ]; rfl)); (case h1_1075 => kernel_rfl); (case hq_1075 => exact fun _ _ _ h => h); (case hw_1075 => rfl); (case hy_1075 => (intro w' hSw; (try simp only [S] at hSw); go_simp; (try with_reducible rfl))); (case hs_1075 => assumption); (try simp only [Act.put, List.setIfInBounds_toArray, List.set_cons_zero, List.set_cons_succ])
        refine wpAnyH_take (i := 23) (oi := ?oi_1087) (v := ?v_1087) ?ho_1087 ?h1_1087 ?h2_1087 ?h3_1087 ?hq_1087 (Or.inl ⟨?hw_1087, ?hy_1087⟩) ?hs_1087 ?rest_1087; (case h2_1087 => kernel_rfl); (case h3_1087 => kernel_rfl); (case ho_1087 => (simp only [List.getElem?_toArray, List.getElem?_cons_zero, List.getElem?_cons_succ]; rfl)); (case h1_1087 => kernel_rfl); (case hq_1087 => exact fun _ _ _ h => h); (case hw_1087 => rfl); (case hy_1087 => (intro w' hSw; have hq := hSw.2.2; go_simp; (try with_reducible rfl))); (case hs_1087 => assumption); (try simp only [Act.put, List.setIfInBounds_toArray, List.set_cons_zero, List.set_cons_succ])
        refine wpAnyH_take (i := 24) (oi := ?oi_1076) (v := ?v_1076) ?ho_1076 ?h1_1076 ?h2_1076 ?h3_1076 ?hq_1076 (Or.inl ⟨?hw_1076, ?hy_1076⟩) ?hs_1076 ?rest_1076; (case h2_1076 => kernel_rfl); (case h3_1076 => kernel_rfl); (case ho_1076 => (simp only [List.getElem?_toArray, List.getElem?_cons_zero, List.getElem?_cons_succ]; rfl)); (case h1_1076 => kernel_rfl); (case hq_1076 => exact fun _ _ _ h => h); (case hw_1076 => rfl); (case hy_1076 => (intro w' hSw; (try simp only [S] at hSw); go_simp; (try with_reducible rfl))); (case hs_1076 => assumption); (try simp only [Act.put, List.setIfInBounds_toArray, List.set_cons_zero, List.set_cons_succ])
        refine wpAnyH_take (i := 25) (oi := ?oi_1077) (v := ?v_1077) ?ho_1077 ?h1_1077 ?h2_1077 ?h3_1077 ?hq_1077 (Or.inl ⟨?hw_1077, ?hy_1077⟩) ?hs_1077 ?rest_1077; (case h2_1077 => kernel_rfl); (case h3_1077 => kernel_rfl); (case ho_1077 => (simp only [List.getElem?_toArray, List.getElem?_cons_zero, List.getElem?_cons_succ]; rfl)); (case h1_1077 => kernel_rfl); (case hq_1077 => exact fun _ _ _ h => h); (case hw_1077 => rfl); (case hy_1077 => (intro w' hSw; (try simp only [S] at hSw); go_simp; (try with_reducible rfl))); (case hs_1077 => assumption); (try simp only [Act.put, List.setIfInBounds_toArray, List.set_cons_zero, List.set_cons_succ])
        refine wpAnyH_take (i := 26) (oi := ?oi_1078) (v := ?v_1078) ?ho_1078 ?h1_1078 ?h2_1078 ?h3_1078 ?hq_1078 (Or.inl ⟨?hw_1078, ?hy_1078⟩) ?hs_1078 ?rest_1078; (case h2_1078 => kernel_rfl); (case h3_1078 => kernel_rfl); (case ho_1078 => (simp only [List.getElem?_toArray, List.getElem?_cons_zero, List.getElem?_cons_succ]; rfl)); (case h1_1078 => kernel_rfl); (case hq_1078 => exact fun _ _ _ h => h); (case hw_1078 => rfl); (case hy_1078 => (intro w' hSw; (try simp only [S] at hSw); go_simp; (try with_reducible rfl))); (case hs_1078 => assumption); (try simp only [Act.put, List.setIfInBounds_toArray, List.set_cons_zero, List.set_cons_succ])
        refine wpAnyH_take (i := 27) (oi := ?oi_1079) (v := ?v_1079) ?ho_1079 ?h1_1079 ?h2_1079 ?h3_1079 ?hq_1079 (Or.inl ⟨?hw_1079, ?hy_1079⟩) ?hs_1079 ?rest_1079; (case h2_1079 => kernel_rfl); (case h3_1079 => kernel_rfl); (case ho_1079 => (simp only [List.getElem?_toArray, List.getElem?_cons_zero, List.getElem?_cons_succ]; rfl)); (case h1_1079 => kernel_rfl); (case hq_1079 => exact fun _ _ _ h => h); (case hw_1079 => rfl); (case hy_1079 => (intro w' hSw; (try simp only [S] at hSw); go_simp; (try with_reducible rfl))); (case hs_1079 => assumption); (try simp only [Act.put, List.setIfInBounds_toArray, List.set_cons_zero, List.set_cons_succ])
        refine wpAnyH_take (i := 28) (oi := ?oi_1080) (v := ?v_1080) ?ho_1080 ?h1_1080 ?h2_1080 ?h3_1080 ?hq_1080 (Or.inl ⟨?hw_1080, ?hy_1080⟩) ?hs_1080 ?rest_1080; (case h2_1080 => kernel_rfl); (case h3_1080 => kernel_rfl); (case ho_1080 => (simp only [List.getElem?_toArray, List.getElem?_cons_zero, List.getElem?_cons_succ]; rfl)); (case h1_1080 => kernel_rfl); (case hq_1080 => exact fun _ _ _ h => h); (case hw_1080 => rfl); (case hy_1080 => (intro w' hSw; (try simp only [S] at hSw); go_simp; (try with_reducible rfl))); (case hs_1080 => assumption); (try simp only [Act.put, List.setIfInBounds_toArray, List.set_cons_zero, List.set_cons_succ])
        refine wpAnyH_take (i := 29) (oi := ?oi_1081) (v := ?v_1081) ?ho_1081 ?h1_1081 ?h2_1081 ?h3_1081 ?hq_1081 (Or.inl ⟨?hw_1081, ?hy_1081⟩) ?hs_1081 ?rest_1081; (case h2_1081 => kernel_rfl); (case h3_1081 => kernel_rfl); (case ho_1081 => (simp only [List.getElem?_toArray, List.getElem?_cons_zero, List.getElem?_cons_succ]; rfl)); (case h1_1081 => kernel_rfl); (case hq_1081 => exact fun _ _ _ h => h); (case hw_1081 => rfl); (case hy_1081 => (intro w' hSw; (try simp only [S] at hSw); go_simp; (try with_reducible rfl))); (case hs_1081 => assumption); (try simp only [Act.put, List.setIfInBounds_toArray, List.set_cons_zero, List.set_cons_succ])
        refine wpAnyH_take (i := 30) (oi := ?oi_1088) (v := ?v_1088) ?ho_1088 ?h1_1088 ?h2_1088 ?h3_1088 ?hq_1088 (Or.inl ⟨?hw_1088, ?hy_1088⟩) ?hs_1088 ?rest_1088; (case h2_1088 => kernel_rfl); (case h3_1088 => kernel_rfl); (case ho_1088 => (simp only [List.getElem?_toArray, List.getElem?_cons_zero, List.getElem?_cons_succ]; rfl)); (case h1_1088 => kernel_rfl); (case hq_1088 => exact fun _ _ _ h => h); (case hw_1088 => rfl); (case hy_1088 => (intro w' hSw; have hq := hSw.2.2; go_simp; (try with_reducible rfl))); (case hs_1088 => assumption); (try simp only [Act.put, List.setIfInBounds_toArray, List.set_cons_zero, List.set_cons_succ])
        refine wpAnyH_take (i := 31) (oi := ?oi_1082) (v := ?v_1082) ?ho_1082 ?h1_1082 ?h2_1082 ?h3_1082 ?hq_1082 (Or.inl ⟨?hw_1082, ?hy_1082⟩) ?hs_1082 ?rest_1082; (case h2_1082 => kernel_rfl); (case h3_1082 => kernel_rfl); (case ho_1082 => (simp only [List.getElem?_toArray, List.getElem?_cons_zero, List.getElem?_cons_succ]; rfl)); (case h1_1082 => kernel_rfl); (case hq_1082 => exact fun _ _ _ h => h); (case hw_1082 => rfl); (case hy_1082 => (intro w' hSw; (try simp only [S] at hSw); go_simp; (try with_reducible rfl))); (case hs_1082 => assumption); (try simp only [Act.put, List.setIfInBounds_toArray, List.set_cons_zero, List.set_cons_succ])
        refine wpAnyH_ready (rs := [6, 32]) (by kernel_rfl) (by simp) (AllReadyH.cons (o := ?oo6_1089) ?hoo6_1089 (fun K hK => ?step6) (AllReadyH.cons (o := ?oo32_1089) ?hoo32_1089 (fun K hK => ?step32) AllReadyH.nil)); (case hoo6_1089 => (simp only [List.getElem?_toArray, List.getElem?_cons_zero, List.getElem?_cons_succ]; rfl)); (case hoo32_1089 => (simp only [List.getElem?_toArray, List.getElem?_cons_zero, List.getElem?_cons_succ]; rfl))
        case step6 =>
          refine step_app _ rfl (.tmp 20) (.tmp 25) 22 rfl Try.underlying22 elemC rfl (own_drewN HX.out.1 1) rfl hxK.drew (oneCell_bvs _) (by simp only [maxLen]; omega) (by omega) (by exact hzr) ?_
          intro A24 c24 w24 hown24 hg24 hb24 hat24
          have hz24 : wr.heap.size ≤ w24.heap.size := hg24.size
          have hS1 : S w24 := hSS _ _ hb24 hS0
          refine hK.out _ _ hS1 (fun _ => ?_)
          clear hK K
          (try simp only [Act.put, List.setIfInBounds_toArray, List.set_cons_zero, List.set_cons_succ])
          have hbA : Below V.heap.size w24 (w24.alloc (.cells tl2 5)) := (Below.refl _ _).alloc (by omega) _
          have hS2 : S (w24.alloc (.cells tl2 5)) := hSS _ _ hbA hS1
          refine wpAnyH_ready (rs := [32]) (by kernel_rfl) (by simp) (AllReadyH.cons (o := ?oo32_1090) ?hoo32_1090 (fun K hK => ?steponly1090) AllReadyH.nil); (case hoo32_1090 => (simp only [List.getElem?_toArray, List.getElem?_cons_zero, List.getElem?_cons_succ]; rfl))
          go_simp
          try rw [ht4']
          refine hK.out _ _ hS2 (fun _ => ?_)
          clear hK K
          (try simp only [Act.put, List.setIfInBounds_toArray, List.set_cons_zero, List.set_cons_succ])
          have hx38 : Sl (w24.alloc (.cells tl2 5)) (w24.alloc (.cells tl2 5)).heap.size 1 (some ⟨w24.heap.size, 0, none⟩) 4 (bvs tl) := by
            have := Sl.new (sz := 1) (n := 4) (heap_alloc_new w24 (.cells tl2 5)) (by rw [← ht4, bvs_len, htll])
            have e : tl2.toList = bvs tl := by rw [← ht4]
            rw [e] at this
            exact this
          refine wpAnyH_ready (rs := [33]) (by kernel_rfl) (by simp) (AllReadyH.cons (o := ?oo33_1091) ?hoo33_1091 (fun K hK => ?steponly1091) AllReadyH.nil); (case hoo33_1091 => (simp only [List.getElem?_toArray, List.getElem?_cons_zero, List.getElem?_cons_succ]; rfl))
          refine step_app _ rfl (.tmp 26) (.tmp 52) 22 rfl Try.underlying22 elemC rfl (hown24.alloc _) rfl hx38 (oneCell_bvs _) (by simp only [maxLen]; omega) (by omega) (by simp; omega) ?_
          intro A39 c39 w39 hown39 hg39 hb39 hat39
          have hS3 : S w39 := hSS _ _ hb39 hS2
          refine hK.out _ _ hS3 (fun _ => ?_)
          clear hK K
          (try simp only [Act.put, List.setIfInBounds_toArray, List.set_cons_zero, List.set_cons_succ])
          have hB39 : Below V.heap.size V w39 := ((HX.out.2.1.drew.trans hb24).trans hbA).trans hb39
          refine wpAnyH_take (i := 34) (oi := ?oi_1083) (v := ?v_1083) ?ho_1083 ?h1_1083 ?h2_1083 ?h3_1083 ?hq_1083 (Or.inl ⟨?hw_1083, ?hy_1083⟩) ?hs_1083 ?rest_1083; (case h2_1083 => kernel_rfl); (case h3_1083 => kernel_rfl); (case ho_1083 => (simp only [List.getElem?_toArray, List.getElem?_cons_zero, List.getElem?_cons_succ]; rfl)); (case h1_1083 => kernel_rfl); (case hq_1083 => exact fun _ _ _ h => h); (case hw_1083 => rfl); (case hy_1083 => (intro w' hSw; (try simp only [S] at hSw); go_simp; (try with_reducible rfl))); (case hs_1083 => assumption); (try simp only [Act.put, List.setIfInBounds_toArray, List.set_cons_zero, List.set_cons_succ])
          refine wpAnyH_done (by kernel_rfl) ?_ _
          rw [← bvs_append, ← bvs_append, HTL.out.symm, ← HX.out.2.2.1] at hown39
          have HF := Lib.hid (And.intro hown39 hB39)
          clear hown39 hB39 hSS
          go_wp2_with fail
          have hmm := HX.out.2.2.2
          refine ⟨⟨k + 1, by omega, by go_num, by rw [show 2 + (k + 1) * 36 = m + 32 + 4 by omega]; exact HF.out.1, HF.out.2⟩, by simp [intOf]; omega⟩
        case step32 =>
          have hbA : Below V.heap.size wr (wr.drew.alloc (.cells tl2 5)) := ((Below.refl _ wr).drew).alloc hzr _
          have hbW : Below wr.heap.size wr (wr.drew.alloc (.cells tl2 5)) := ((Below.refl _ wr).drew).alloc (Nat.le_refl _) _
          have hS1 : S (wr.drew.alloc (.cells tl2 5)) := hSS wr _ hbA hS0
          go_simp
          try rw [ht4']
          refine hK.out _ _ hS1 (fun _ => ?_)
          clear hK K
          (try simp only [Act.put, List.setIfInBounds_toArray, List.set_cons_zero, List.set_cons_succ])
          have own1 := own_below HX.out.1 hbW
          have hxK1 := hxK.below hbW
          have b38 : (wr.drew.alloc (.cells tl2 5)).heap[wr.heap.size]? = some (.cells tl2 5) := heap_alloc_new wr.drew _
          have hlt4 : ∀ q, (Value.slice A4 m c4).ownBlock = some q → q < wr.heap.size := fun q hq => (HX.out.1.lt q hq).2
          refine wpAnyH_ready (rs := [6]) (by kernel_rfl) (by simp) (AllReadyH.cons (o := ?oo6_1092) ?hoo6_1092 (fun K hK => ?steponly1092) AllReadyH.nil); (case hoo6_1092 => (simp only [List.getElem?_toArray, List.getElem?_cons_zero, List.getElem?_cons_succ]; rfl))
          refine step_app _ rfl (.tmp 20) (.tmp 25) 22 rfl Try.underlying22 elemC rfl own1 rfl hxK1 (oneCell_bvs _) (by simp only [maxLen]; omega) (by omega) (by simp; omega) ?_
          intro A24 c24 w24 hown24 hg24 hb24 hat24
          have hg24' : World.grownBy (wr.drew.alloc (.cells tl2 5)) w24 (Value.slice A4 m c4).ownBlock := hg24
          have hz24 : wr.heap.size + 1 ≤ w24.heap.size := by have := hg24'.size; simpa using this
          have hS2 : S w24 := hSS _ _ hb24 hS1
          have b38' : w24.heap[wr.heap.size]? = some (.cells tl2 5) := (hg24'.block _ (by simp) (fun e => by have := hlt4 _ e.symm; omega)).trans b38
          refine hK.out _ _ hS2 (fun _ => ?_)
          clear hK K
          (try simp only [Act.put, List.setIfInBounds_toArray, List.set_cons_zero, List.set_cons_succ])
          have hx38 : Sl w24 w24.heap.size 1 (some ⟨wr.heap.size, 0, none⟩) 4 (bvs tl) := by
            have := Sl.new (sz := 1) (n := 4) b38' (by rw [← ht4, bvs_len, htll])
            rw [← ht4] at this
            exact this
          refine wpAnyH_ready (rs := [33]) (by kernel_rfl) (by simp) (AllReadyH.cons (o := ?oo33_1093) ?hoo33_1093 (fun K hK => ?steponly1093) AllReadyH.nil); (case hoo33_1093 => (simp only [List.getElem?_toArray, List.getElem?_cons_zero, List.getElem?_cons_succ]; rfl))
          refine step_app _ rfl (.tmp 26) (.tmp 52) 22 rfl Try.underlying22 elemC rfl hown24 rfl hx38 (oneCell_bvs _) (by simp only [maxLen]; omega) (by omega) (by omega) ?_
          intro A39 c39 w39 hown39 hg39 hb39 hat39
          have hS3 : S w39 := hSS _ _ hb39 hS2
          refine hK.out _ _ hS3 (fun _ => ?_)
          clear hK K
          (try simp only [Act.put, List.setIfInBounds_toArray, List.set_cons_zero, List.set_cons_succ])
          have hB39 : Below V.heap.size V w39 := ((HX.out.2.1.trans hbA).trans hb24).trans hb39
          refine wpAnyH_take (i := 34) (oi := ?oi_1084) (v := ?v_1084) ?ho_1084 ?h1_1084 ?h2_1084 ?h3_1084 ?hq_1084 (Or.inl ⟨?hw_1084, ?hy_1084⟩) ?hs_1084 ?rest_1084; (case h2_1084 => kernel_rfl); (case h3_1084 => kernel_rfl); (case ho_1084 => (simp only [List.getElem?_toArray, List.getElem?_cons_zero, List.getElem?_cons_succ]; rfl)); (case h1_1084 => kernel_rfl); (case hq_1084 => exact fun _ _ _ h => h); (case hw_1084 => rfl); (case hy_1084 => (intro w' hSw; (try simp only [S] at hSw); go_simp; (try with_reducible rfl))); (case hs_1084 => assumption); (try simp only [Act.put, List.setIfInBounds_toArray, List.set_cons_zero, List.set_cons_succ])
          refine wpAnyH_done (by kernel_rfl) ?_ _
          rw [← bvs_append, ← bvs_append, HTL.out.symm, ← HX.out.2.2.1] at hown39
          have HF := Lib.hid (And.intro hown39 hB39)
          clear hown39 hB39 hSS
          go_wp2_with fail
          have hmm := HX.out.2.2.2
          refine ⟨⟨k + 1, by omega, by go_num, by rw [show 2 + (k + 1) * 36 = m + 32 + 4 by omega]; exact HF.out.1, HF.out.2⟩, by simp [intOf]; omega⟩
      · obtain rfl : k = n := by omega
        have hi1 : ¬ (k : Int) < (k : Int) := by omega
        rw [lfTo_all HN.out] at hown
        have hbl : (lfB l).length = 2 + k * 36 := by rw [lfB_len H1.out.2.2.ok, HN.out]; 
        obtain ⟨m, hm⟩ : ∃ m, 2 + k * 36 = m := ⟨_, rfl⟩
        have hm124 : m ≤ 124 := by omega
        rw [hm] at hown hbl
        rw [hm]
        have hsl := rblock_any (c := c4) wr (Sl.of_own hown) hbl hm124
        have a2 := bBlk hbr l3 H1.out.1
        have hB := bNext H1.out.2.1 hbr
        have l4 := (Array.getElem?_eq_some_iff.1 a2).1
        have e1 : lfEnc l = sealB (lfB l) := by unfold lfEnc; rw [HG.out.1, if_pos rfl]
        have e2 : (sealB (lfB l)).length = 128 := sealB_len (by rw [hbl]; exact hm124)
        unfold bkv at hsl
        obtain ⟨P, hP⟩ : ∃ q, sealB (lfB l) = q := ⟨_, rfl⟩
        rw [hP] at hsl e1 e2
        have HE := Lib.hid (And.intro e1 (And.intro hB a2))
        have hpi := bk_info e2
        have hps : (bvs P).toArray.size = zb.size := by rw [List.size_toArray, bvs_len, e2, hzs]
        have hp1 := oneCell_bvs P
        clear hown hbr hbl hm hB a2 e1 hP hm124
        go_upto_region 8 with (fail)
        go_wp2_with fail
        refine Calls.mono hsl ?_
        rintro e Z ⟨rfl, hbZ⟩
        clear hsl
        have a2 := bBlk hbZ l4 HE.out.2.2
        have hB := bNext HE.out.2.1 hbZ
        have HB := Lib.hid hB
        clear hB hbZ
        go_wp2_with (first
          | (refine wpList_store_row rfl 40 (.tmp 2) (.tmp 55) rfl _ (bvs P).toArray rfl rfl _ zb a2 hpi hps.symm (all_oneCell_toArray hp1) ?_)
          | fail)
        generalize hX : World.setRow _ _ _ = X9
        have b9 : X9.heap[w.heap.size]? = some (.cells (bvs P).toArray 40) := by rw [← hX]; exact setRow_heap _ _ _ _ _ _ a2
        have hBX : Below w.heap.size w X9 := by rw [← hX]; exact bSetRow HB.out (Nat.le_refl _) _
        clear hX
        have hld := run_loadVar_row (P := Try.prog) X9 _ _ 40 _ _ _ b9 Try.underlying40 rfl hpi
        refine bodyPost_ret (by simp [results, Try.results25, Act.put, asAddr, Result.andThen, hld]; try rfl) rfl ?_
        exact Ret.mk (by rw [HE.out.1, HG.out.1]; rfl) hBX
end Go.Proofs.Ythmjkgpfnpdddaa
