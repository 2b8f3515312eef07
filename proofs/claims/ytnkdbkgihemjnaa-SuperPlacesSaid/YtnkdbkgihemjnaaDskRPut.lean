/- The walk over codexref01's Write. -/
import Derived.Test.YtnkdbkgihemjnaaDskRWalk
namespace Go.Proofs.Ytnkdbkgihemjnaa
set_option linter.unusedSimpArgs false
set_option linter.unusedVariables false
open Go.RowKit

theorem relemW : Elem Try.prog 114 129 136 := elem_of (z := .agg (Value.int .i64 0 :: bvs zblk).toArray) (by kernel_rfl) (by rw [Value.cells, List.size_toArray, List.length_cons, bvs_len]; simp [zblk]) (by omega)
theorem rwrZ : ZeroIs Try.prog 114 (Value.int .i64 0 :: bvs zblk).toArray := by
  unfold ZeroIs; rw [show (Value.int .i64 0 :: bvs zblk).toArray.size = 129 from by rw [List.size_toArray, List.length_cons, bvs_len]; simp [zblk]]; kernel_rfl
theorem rwrZ_size : (Value.int .i64 0 :: bvs zblk).toArray.size = 129 := by rw [List.size_toArray, List.length_cons, bvs_len]; simp [zblk]
theorem rbuilt_write (i : Int) {b : Blk} (hb : b.length = 128) : Try.prog.built 114 [(0, .int .i64 i), (1, .agg (bvs b).toArray)] = some (Value.int .i64 i :: bvs b).toArray :=
  built_two (n := 128) rwrZ rwrZ_size (by kernel_rfl) _ rfl _ (by rw [bvs_len, hb])
theorem rslice_write (i : Int) {b : Blk} (hb : b.length = 128) (w : World) : (Instr.buildSlice 51 1 #[(0, .agg (Value.int .i64 i :: bvs b).toArray)]).run Try.prog w = .ok (.slice (some ⟨w.heap.size, 0, none⟩) 1 1) (w.alloc (.cells (Value.int .i64 i :: bvs b).toArray 114)) :=
  run_slice1 rwrZ (by kernel_rfl) (s := 129) (by rw [List.size_toArray, List.length_cons, bvs_len]; simp [zblk]) (by omega) (by omega) _ (by rw [List.length_cons, bvs_len, hb]) w

theorem RDk.pushed {w1 w2 : World} {base p B : Nat} {v v' : Value} {s : DS} {F : Int} {tmp : Obj} {x : Nat × Blk} (h : RDk w1 base p B v s F) (hg : (w1.alloc tmp).grownBy w2 v.ownBlock)
    (hown2 : w2.ownsRow base 114 129 v' (s.lo.length + 1) (lcs s.lo ++ wcs x)) (hat : v'.ownBlock = v.ownBlock ∨ v'.ownBlock = some (w1.alloc tmp).heap.size) (hx : x.1 < s.bl.length ∧ x.2.length = 128) :
    RDk (w2.setCell ⟨p, 1, none⟩ v') base p B v' { s with lo := s.lo ++ [x] } F ∧ DStep p B v v' w1 (w2.setCell ⟨p, 1, none⟩ v') := by
  have hlt := h.lt
  have hp2 : w2.heap[p]? = some (.cells (rHead B s.bl.length v F s.done s.down) 53) := (hg.block p (by simp; omega) (fun e => h.vp e.symm)).trans ((Below.heap_alloc _ _ _ hlt.1).trans h.hd)
  have hB2 : w2.heap[B]? = some (.cells (bcs s.bl).toArray 40) := (hg.block B (by simp; omega) (fun e => h.vB e.symm)).trans ((Below.heap_alloc _ _ _ hlt.2).trans h.bl)
  have hv' : ∀ k, v'.ownBlock = some k → v.ownBlock = some k ∨ k = w1.heap.size + 1 := fun k hk => by
    rcases hat with e | e
    · exact .inl (by rw [← e]; exact hk)
    · right; rw [e] at hk; simpa using hk.symm
  refine ⟨⟨?_, ?_, ?_, h.pB, h.bp, h.bB, ?_, ?_, ?_, h.hF, h.f63⟩, ?_, ?_⟩
  · exact blk_set hp2 1 v'
  · exact blk_far hB2 _ (fun e => h.pB e.symm)
  · have hl : lcs (s.lo ++ [x]) = lcs s.lo ++ wcs x := by simp [lcs]
    show (w2.setCell ⟨p, 1, none⟩ v').ownsRow base _ 129 v' (s.lo ++ [x]).length (lcs (s.lo ++ [x]))
    rw [hl, List.length_append, List.length_singleton]
    refine ⟨hown2.1, ?_⟩
    rcases hown2.2 with ⟨_, e⟩ | ⟨g, cap, cur, e, h1, h2, h3⟩
    · omega
    · refine .inr ⟨g, cap, cur, e, h1, blk_far h2 _ (fun (ee : g = p) => ?_), h3⟩
      rcases hv' g (by rw [e]; rfl) with e2 | e2
      · exact h.vp (ee ▸ e2)
      · omega
  · exact fun e => by
      rcases hv' p e with e2 | e2
      · exact h.vp e2
      · omega
  · exact fun e => by
      rcases hv' B e with e2 | e2
      · exact h.vB e2
      · omega
  · exact ⟨h.ok.bl, fun y hy => by
      rcases List.mem_append.1 hy with h1 | h1
      · exact h.ok.lo y h1
      · obtain rfl := List.mem_singleton.1 h1; exact hx, h.ok.n16, h.ok.n128, h.ok.f63⟩
  · exact (((But.refl w1.heap.size (Own p B v) w1).alloc (Nat.le_refl _) tmp).grown hg (by simp) (fun k hk => .inr (.inr (.inr hk)))).set (X := Own p B v) (p := ⟨p, 1, none⟩) (.inl rfl) v'
  · intro k hk
    rcases hv' k hk with e | e
    · exact .inl e
    · exact .inr (by omega)

attribute [-go_sem] Instr.buildSlice Builtin.append_
set_option maxHeartbeats 2000000 in
set_option maxRecDepth 100000 in
theorem rwrite_any {w : World} {base p B : Nat} {v : Value} {s : DS} {F : Int} (h : RDk w base p B v s F) (hd : s.done < 4611686018427387904) (hl : s.lo.length < 1000000) (i : Int) {b : Blk} (hb : b.length = 128) :
    Calls Try.prog 22 #[dp p, .int .i64 i, bkv b] w fun e w' => e = .returned (.int .i64 (s.writeE i)) ∧ ∃ v' F', RDk w' base p B v' (s.write i b) F' ∧ DStep p B v v' w w' := by
  unfold bkv
  generalize hW : w.alloc (.cells (bvs b).toArray 40) = W
  have hBW : Below w.heap.size w W := by rw [← hW]; exact (Below.refl _ _).alloc (Nat.le_refl _) _
  have bb : W.heap[w.heap.size]? = some (.cells (bvs b).toArray 40) := by rw [← hW]; exact heap_alloc_new _ _
  have hk := h.below hBW
  have hlt := h.lt
  have hhas := rhas_any hk i
  have hpass := rgoes_any hk hd
  have HST : Hid (DStep p B v v w W) := Lib.hid ⟨but_of hBW, fun k e => .inl e⟩
  cases hin : s.inB i
  · have hwe : Hid (s.writeE i = 1 ∧ s.write i b = s) := Lib.hid (by simp [DS.writeE, DS.write, hin])
    rw [hin] at hhas
    unfold dp at *
    go_enter Try.func22, Try.ntmps22
    go_wp2_with fail
    refine hhas.mono ?_
    rintro e w' ⟨rfl, rfl⟩
    go_wp2_with fail
    go_ret
    rw [hwe.out.1, hwe.out.2]
    exact ⟨rfl, v, F, hk, HST.out⟩
  · rw [hin] at hhas
    cases hs : s.stops
    · have hwe : Hid (s.writeE i = 0 ∧ s.passE = 0 ∧ s.pass = s.gone ∧ s.write i b = { s.gone with lo := s.lo ++ [(i.toNat, b)] }) := Lib.hid (by simp [DS.writeE, DS.passE, DS.write, DS.pass, hin, hs])
      have hi := DS.inB_iff.1 hin
      rw [hs, hwe.out.2.2.1] at hpass
      unfold dp at *
      go_enter Try.func22, Try.ntmps22
      go_wp2_with fail
      refine hhas.mono ?_
      rintro e w' ⟨rfl, rfl⟩
      go_wp2_with fail
      refine hpass.mono ?_
      rintro e w1 ⟨rfl, F1, hk1, hb1⟩
      have bb1 := hb1.blk (by have := (Array.getElem?_eq_some_iff.1 bb).1; omega) (fun e => by omega) bb
      obtain ⟨hb0, c0, c1, c2, c3, c4, fr⟩ := hk1.hds
      have hld := run_loadVar_row (P := Try.prog) w1 _ _ 40 _ _ _ bb1 Try.underlying40 rfl (bk_info hb)
      have hsl := fun W => rslice_write i hb W
      have hbt2 := rbuilt_write i hb
      have hown := hk1.lo
      have hlt1 := hk1.lt
      have HK1 := Lib.hid hk1
      have hbase := h.bp
      have hsz1 := hb1.size
      have hszW := hBW.size
      have HK := Lib.hid (fun k hx => (h.own_ge k hx).2)
      clear hk1 hk h
      go_wp2_with fail
      have hszz : w.heap.size + 1 ≤ w1.heap.size := by have := (Array.getElem?_eq_some_iff.1 bb).1; omega
      have hmx : Try.prog.follows .mixedOrders = true := by kernel_rfl
      let S : World → Prop := fun w' => w'.rangeAt w.heap.size 0 (bvs b)
      have hbt : ∀ w', But (w.heap.size + 1) (fun k => Own p B v k) w1 w' → S w' := fun w' hw' => hw'.range (by omega) (fun hx => by have := HK.out _ hx; omega) (by intro j u hj; rw [Nat.zero_add]; exact blk_cell bb1 (by simpa using hj))
      have HBT := Lib.hid hbt
      have hS0 : S w1.drew := hbt _ (But.refl _ _ w1).drew
      clear hbt
      have hwc : wcs (i.toNat, b) = Value.int .i64 i :: bvs b := by unfold wcs; rw [Int.toNat_of_nonneg hi.1]
      have hwo : ∀ u ∈ (Value.int .i64 i :: bvs b), u.oneCell' = true := fun u hu => one_lcs [(i.toNat, b)] u (by unfold lcs; rw [List.flatMap_cons, List.flatMap_nil, List.append_nil, hwc]; exact hu)
      have hgl : s.gone.lo.length = s.lo.length := rfl
      obtain ⟨A2, c2, w2, hrun, hown2, hg2, hat2⟩ := run_app (P := Try.prog) (w1.drew.alloc (.cells (Value.int .i64 i :: bvs b).toArray 114)) (ty := 51) (t := 51) Try.underlying51 relemW (hown.drew.alloc _) (Sl.new (n := 1) (heap_alloc_new _ _) (by rw [List.length_cons, bvs_len, hb])) (c := 1) hwo (by simp only [maxLen]; omega) (by omega) (by rw [World.size_alloc]; show base ≤ w1.heap.size + 1; omega)
      replace hrun : (Builtin.append_ #[51, 51] 51 #[v, .slice (some ⟨w1.heap.size, 0, none⟩) 1 1]).run Try.prog (w1.alloc (.cells (Value.int .i64 i :: bvs b).toArray 114)).drew = .ok (.slice A2 (s.gone.lo.length + 1) c2) w2 := hrun
      have q12 := HK1.out.below (w' := w1.drew) ((Below.refl _ _).drew)
      have q := q12.pushed (x := (i.toNat, b)) hg2 (by rw [hwc]; exact hown2) hat2 ⟨by have : s.gone.bl = s.bl := rfl; rw [this]; show i.toNat < _; omega, hb⟩
      have bw2 : But w1.heap.size (Own p B v) w1 w2 := (((But.refl _ _ w1).drew).alloc (Nat.le_refl _) _).grown hg2 (by rw [World.size_alloc]; exact Nat.le_succ _) (fun k hk => .inr (.inr (.inr hk)))
      have hp2 : w2.heap[p]? = some (.cells (rHead B s.gone.bl.length v F1 s.gone.done s.gone.down) 53) := (hg2.block p (by rw [World.size_alloc]; show p < w1.heap.size + 1; omega) (fun e => HK1.out.vp e.symm)).trans ((Below.heap_alloc _ _ _ hlt1.1).trans HK1.out.hd)
      have cc1 := blk_cell hp2 (k := 1) rfl
      have ff1 := blk_frozen hp2 1
      have hS2 := HBT.out _ (bw2.less (by omega))
      have hS3 := HBT.out _ ((bw2.less (by omega)).set (p := ⟨p, 1, none⟩) (.inl rfl) (.slice A2 (s.gone.lo.length + 1) c2))
      have hSa := HBT.out _ ((((But.refl (w.heap.size + 1) (Own p B v) w1).drew).alloc (by show w.heap.size + 1 ≤ w1.heap.size; omega) (.cells (Value.int .i64 i :: bvs b).toArray 114)))
      have ca1 : (w1.drew.alloc (.cells (Value.int .i64 i :: bvs b).toArray 114)).cell? ⟨p, 1, none⟩ = some v := (World.cell?_alloc_lt _ _ _ hlt1.1).trans c1
      have HQ := Lib.hid q
      clear hg2 hown2 hat2 hp2 q q12 bw2 hwc hwo hgl
      refine wp_region_held (S := S) hmx ?_
      change wpAnyH _ _ _ _ S _ _ _ w1.drew
      refine wpAnyH_take (i := 0) (oi := ?oi_19) (v := ?v_19) ?ho_19 ?h1_19 ?h2_19 ?h3_19 ?hq_19 (Or.inl ⟨?hw_19, ?hy_19⟩) ?hs_19 ?rest_19; (case h2_19 => kernel_rfl); (case h3_19 => kernel_rfl); (case ho_19 => (simp only [List.getElem?_toArray, List.getElem?_cons_zero, List.getElem?_cons_succ]; rfl)); (case h1_19 => kernel_rfl); (case hq_19 => exact fun _ _ _ h => h); (case hw_19 => rfl); (case hy_19 => (intro w' hSw; (try simp only [S] at hSw); go_simp; (try with_reducible rfl))); (case hs_19 => assumption); (try simp only [Act.put, List.setIfInBounds_toArray, List.set_cons_zero, List.set_cons_succ])
      refine wpAnyH_take (i := 1) (oi := ?oi_20) (v := ?v_20) ?ho_20 ?h1_20 ?h2_20 ?h3_20 ?hq_20 (Or.inl ⟨?hw_20, ?hy_20⟩) ?hs_20 ?rest_20; (case h2_20 => kernel_rfl); (case h3_20 => kernel_rfl); (case ho_20 => (simp only [List.getElem?_toArray, List.getElem?_cons_zero, List.getElem?_cons_succ]; rfl)); (case h1_20 => kernel_rfl); (case hq_20 => exact fun _ _ _ h => h); (case hw_20 => rfl); (case hy_20 => (intro w' hSw; (try simp only [S] at hSw); go_simp; (try with_reducible rfl))); (case hs_20 => assumption); (try simp only [Act.put, List.setIfInBounds_toArray, List.set_cons_zero, List.set_cons_succ])
      refine wpAnyH_take (i := 2) (oi := ?oi_21) (v := ?v_21) ?ho_21 ?h1_21 ?h2_21 ?h3_21 ?hq_21 (Or.inl ⟨?hw_21, ?hy_21⟩) ?hs_21 ?rest_21; (case h2_21 => kernel_rfl); (case h3_21 => kernel_rfl); (case ho_21 => (simp only [List.getElem?_toArray, List.getElem?_cons_zero, List.getElem?_cons_succ]; rfl)); (case h1_21 => kernel_rfl); (case hq_21 => exact fun _ _ _ h => h); (case hw_21 => rfl); (case hy_21 => (intro w' hSw; (try simp only [S] at hSw); go_simp; (try with_reducible rfl))); (case hs_21 => assumption); (try simp only [Act.put, List.setIfInBounds_toArray, List.set_cons_zero, List.set_cons_succ])
      refine wpAnyH_take (i := 3) (oi := ?oi_22) (v := ?v_22) ?ho_22 ?h1_22 ?h2_22 ?h3_22 ?hq_22 (Or.inl ⟨?hw_22, ?hy_22⟩) ?hs_22 ?rest_22; (case h2_22 => kernel_rfl); (case h3_22 => kernel_rfl); (case ho_22 => (simp only [List.getElem?_toArray, List.getElem?_cons_zero, List.getElem?_cons_succ]; rfl)); (case h1_22 => kernel_rfl); (case hq_22 => exact fun _ _ _ h => h); (case hw_22 => rfl); (case hy_22 => (intro w' hSw; (try simp only [S] at hSw); go_simp; (try with_reducible rfl))); (case hs_22 => assumption); (try simp only [Act.put, List.setIfInBounds_toArray, List.set_cons_zero, List.set_cons_succ])
      refine wpAnyH_take (i := 5) (oi := ?oi_23) (v := ?v_23) ?ho_23 ?h1_23 ?h2_23 ?h3_23 ?hq_23 (Or.inl ⟨?hw_23, ?hy_23⟩) ?hs_23 ?rest_23; (case h2_23 => kernel_rfl); (case h3_23 => kernel_rfl); (case ho_23 => (simp only [List.getElem?_toArray, List.getElem?_cons_zero, List.getElem?_cons_succ]; rfl)); (case h1_23 => kernel_rfl); (case hq_23 => exact fun _ _ _ h => h); (case hw_23 => rfl); (case hy_23 => (intro w' hSw; (try simp only [S] at hSw); go_simp; (try with_reducible rfl))); (case hs_23 => assumption); (try simp only [Act.put, List.setIfInBounds_toArray, List.set_cons_zero, List.set_cons_succ])
      refine wpAnyH_take (i := 6) (oi := ?oi_28) (v := ?v_28) ?ho_28 ?h1_28 ?h2_28 ?h3_28 ?hq_28 (Or.inl ⟨?hw_28, ?hy_28⟩) ?hs_28 ?rest_28; (case h2_28 => kernel_rfl); (case h3_28 => kernel_rfl); (case ho_28 => (simp only [List.getElem?_toArray, List.getElem?_cons_zero, List.getElem?_cons_succ]; rfl)); (case h1_28 => kernel_rfl); (case hq_28 => exact fun _ _ _ h => h); (case hw_28 => rfl); (case hy_28 => (intro w' hSw; refine exec_load_row (x := .tmp 5) ?_ ?_ hSw Try.underlying40 ?_ (bk_len hb) <;> rfl)); (case hs_28 => assumption); (try simp only [Act.put, List.setIfInBounds_toArray, List.set_cons_zero, List.set_cons_succ])
      refine wpAnyH_take (i := 7) (oi := ?oi_29) (v := ?v_29) ?ho_29 ?h1_29 ?h2_29 ?h3_29 ?hq_29 (Or.inl ⟨?hw_29, ?hy_29⟩) ?hs_29 ?rest_29; (case h2_29 => kernel_rfl); (case h3_29 => kernel_rfl); (case ho_29 => (simp only [List.getElem?_toArray, List.getElem?_cons_zero, List.getElem?_cons_succ]; rfl)); (case h1_29 => kernel_rfl); (case hq_29 => exact fun _ _ _ h => h); (case hw_29 => rfl); (case hy_29 => (intro w' hSw; refine exec_built (t := 114) (parts := #[(0, .tmp 19), (1, .tmp 20)]) (cs := (Value.int .i64 i :: bvs b).toArray) ?_ ?_ w'; rfl; (simp only [List.map_toArray, List.map_cons, List.map_nil]; exact hbt2))); (case hs_29 => assumption); (try simp only [Act.put, List.setIfInBounds_toArray, List.set_cons_zero, List.set_cons_succ])
      clear hld bb1 bb hW HBT
      refine wpAnyH_ready (rs := [4, 8]) (by kernel_rfl) (by simp) (AllReadyH.cons (o := ?oo4_30) ?hoo4_30 (fun K hK => ?step4) (AllReadyH.cons (o := ?oo8_30) ?hoo8_30 (fun K hK => ?step8) AllReadyH.nil)); (case hoo4_30 => (simp only [List.getElem?_toArray, List.getElem?_cons_zero, List.getElem?_cons_succ]; rfl)); (case hoo8_30 => (simp only [List.getElem?_toArray, List.getElem?_cons_zero, List.getElem?_cons_succ]; rfl))
      case step4 =>
        go_simp
        refine hK.out _ _ hS0 (fun _ => ?_)
        clear hK K
        (try simp only [Act.put, List.setIfInBounds_toArray, List.set_cons_zero, List.set_cons_succ])
        refine wpAnyH_ready (rs := [8]) (by kernel_rfl) (by simp) (AllReadyH.cons (o := ?oo8_31) ?hoo8_31 (fun K hK => ?steponly31) AllReadyH.nil); (case hoo8_31 => (simp only [List.getElem?_toArray, List.getElem?_cons_zero, List.getElem?_cons_succ]; rfl))
        go_simp
        refine hK.out _ _ hSa (fun _ => ?_)
        clear hK K
        (try simp only [Act.put, List.setIfInBounds_toArray, List.set_cons_zero, List.set_cons_succ])
        refine wpAnyH_ready (rs := [9]) (by kernel_rfl) (by simp) (AllReadyH.cons (o := ?oo9_32) ?hoo9_32 (fun K hK => ?steponly32) AllReadyH.nil); (case hoo9_32 => (simp only [List.getElem?_toArray, List.getElem?_cons_zero, List.getElem?_cons_succ]; rfl))
        go_simp
        refine hK.out _ _ hS2 (fun _ => ?_)
        clear hK K
        (try simp only [Act.put, List.setIfInBounds_toArray, List.set_cons_zero, List.set_cons_succ])
        refine wpAnyH_take (i := 10) (oi := ?oi_24) (v := ?v_24) ?ho_24 ?h1_24 ?h2_24 ?h3_24 ?hq_24 (Or.inl ⟨?hw_24, ?hy_24⟩) ?hs_24 ?rest_24; (case h2_24 => kernel_rfl); (case h3_24 => kernel_rfl); (case ho_24 => (simp only [List.getElem?_toArray, List.getElem?_cons_zero, List.getElem?_cons_succ]; rfl)); (case h1_24 => kernel_rfl); (case hq_24 => exact fun _ _ _ h => h); (case hw_24 => rfl); (case hy_24 => (intro w' hSw; (try simp only [S] at hSw); go_simp; (try with_reducible rfl))); (case hs_24 => assumption); (try simp only [Act.put, List.setIfInBounds_toArray, List.set_cons_zero, List.set_cons_succ])
        refine wpAnyH_take (i := 11) (oi := ?oi_25) (v := ?v_25) ?ho_25 ?h1_25 ?h2_25 ?h3_25 ?hq_25 (Or.inl ⟨?hw_25, ?hy_25⟩) ?hs_25 ?rest_25; (case h2_25 => kernel_rfl); (case h3_25 => kernel_rfl); (case ho_25 => (simp only [List.getElem?_toArray, List.getElem?_cons_zero, List.getElem?_cons_succ]; rfl)); (case h1_25 => kernel_rfl); (case hq_25 => exact fun _ _ _ h => h); (case hw_25 => rfl); (case hy_25 => (intro w' hSw; (try simp only [S] at hSw); go_simp; (try with_reducible rfl))); (case hs_25 => assumption); (try simp only [Act.put, List.setIfInBounds_toArray, List.set_cons_zero, List.set_cons_succ])
        refine wpAnyH_ready (rs := [12]) (by kernel_rfl) (by simp) (AllReadyH.cons (o := ?oo12_33) ?hoo12_33 (fun K hK => ?steponly33) AllReadyH.nil); (case hoo12_33 => (simp only [List.getElem?_toArray, List.getElem?_cons_zero, List.getElem?_cons_succ]; rfl))
        go_simp
        refine hK.out _ _ hS3 (fun _ => ?_)
        clear hK K
        (try simp only [Act.put, List.setIfInBounds_toArray, List.set_cons_zero, List.set_cons_succ])
        refine wpAnyH_done (by kernel_rfl) ?_ _
        go_wp2
        go_ret
        rw [hwe.out.1, hwe.out.2.2.2]
        exact ⟨rfl, _, _, HQ.out.1, HST.out.trans (DStep.trans ⟨hb1.widen (fun k e => .inl e), fun k e => .inl e⟩ (DStep.trans ⟨(But.refl _ _ w1).drew, fun k e => .inl e⟩ HQ.out.2))⟩
      case step8 =>
        go_simp
        refine hK.out _ _ hSa (fun _ => ?_)
        clear hK K
        (try simp only [Act.put, List.setIfInBounds_toArray, List.set_cons_zero, List.set_cons_succ])
        refine wpAnyH_ready (rs := [4]) (by kernel_rfl) (by simp) (AllReadyH.cons (o := ?oo4_34) ?hoo4_34 (fun K hK => ?steponly34) AllReadyH.nil); (case hoo4_34 => (simp only [List.getElem?_toArray, List.getElem?_cons_zero, List.getElem?_cons_succ]; rfl))
        go_simp
        refine hK.out _ _ hSa (fun _ => ?_)
        clear hK K
        (try simp only [Act.put, List.setIfInBounds_toArray, List.set_cons_zero, List.set_cons_succ])
        refine wpAnyH_ready (rs := [9]) (by kernel_rfl) (by simp) (AllReadyH.cons (o := ?oo9_35) ?hoo9_35 (fun K hK => ?steponly35) AllReadyH.nil); (case hoo9_35 => (simp only [List.getElem?_toArray, List.getElem?_cons_zero, List.getElem?_cons_succ]; rfl))
        go_simp
        refine hK.out _ _ hS2 (fun _ => ?_)
        clear hK K
        (try simp only [Act.put, List.setIfInBounds_toArray, List.set_cons_zero, List.set_cons_succ])
        refine wpAnyH_take (i := 10) (oi := ?oi_26) (v := ?v_26) ?ho_26 ?h1_26 ?h2_26 ?h3_26 ?hq_26 (Or.inl ⟨?hw_26, ?hy_26⟩) ?hs_26 ?rest_26; (case h2_26 => kernel_rfl); (case h3_26 => kernel_rfl); (case ho_26 => (simp only [List.getElem?_toArray, List.getElem?_cons_zero, List.getElem?_cons_succ]; rfl)); (case h1_26 => kernel_rfl); (case hq_26 => exact fun _ _ _ h => h); (case hw_26 => rfl); (case hy_26 => (intro w' hSw; (try simp only [S] at hSw); go_simp; (try with_reducible rfl))); (case hs_26 => assumption); (try simp only [Act.put, List.setIfInBounds_toArray, List.set_cons_zero, List.set_cons_succ])
        refine wpAnyH_take (i := 11) (oi := ?oi_27) (v := ?v_27) ?ho_27 ?h1_27 ?h2_27 ?h3_27 ?hq_27 (Or.inl ⟨?hw_27, ?hy_27⟩) ?hs_27 ?rest_27; (case h2_27 => kernel_rfl); (case h3_27 => kernel_rfl); (case ho_27 => (simp only [List.getElem?_toArray, List.getElem?_cons_zero, List.getElem?_cons_succ]; rfl)); (case h1_27 => kernel_rfl); (case hq_27 => exact fun _ _ _ h => h); (case hw_27 => rfl); (case hy_27 => (intro w' hSw; (try simp only [S] at hSw); go_simp; (try with_reducible rfl))); (case hs_27 => assumption); (try simp only [Act.put, List.setIfInBounds_toArray, List.set_cons_zero, List.set_cons_succ])
        refine wpAnyH_ready (rs := [12]) (by kernel_rfl) (by simp) (AllReadyH.cons (o := ?oo12_36) ?hoo12_36 (fun K hK => ?steponly36) AllReadyH.nil); (case hoo12_36 => (simp only [List.getElem?_toArray, List.getElem?_cons_zero, List.getElem?_cons_succ]; rfl))
        go_simp
        refine hK.out _ _ hS3 (fun _ => ?_)
        clear hK K
        (try simp only [Act.put, List.setIfInBounds_toArray, List.set_cons_zero, List.set_cons_succ])
        refine wpAnyH_done (by kernel_rfl) ?_ _
        go_wp2
        go_ret
        rw [hwe.out.1, hwe.out.2.2.2]
        exact ⟨rfl, _, _, HQ.out.1, HST.out.trans (DStep.trans ⟨hb1.widen (fun k e => .inl e), fun k e => .inl e⟩ (DStep.trans ⟨(But.refl _ _ w1).drew, fun k e => .inl e⟩ HQ.out.2))⟩
    · have hwe : Hid (s.writeE i = 12 ∧ s.passE = 12 ∧ s.pass = s.cut ∧ s.write i b = s.cut) := Lib.hid (by simp [DS.writeE, DS.passE, DS.write, DS.pass, hin, hs])
      rw [hs, hwe.out.2.2.1] at hpass
      unfold dp at *
      go_enter Try.func22, Try.ntmps22
      go_wp2_with fail
      refine hhas.mono ?_
      rintro e w' ⟨rfl, rfl⟩
      go_wp2_with fail
      refine hpass.mono ?_
      rintro e w1 ⟨rfl, F1, hk1, hb1⟩
      clear hk h
      go_wp2_with fail
      go_ret
      rw [hwe.out.1, hwe.out.2.2.2]
      exact ⟨rfl, v, F1, hk1, HST.out.trans ⟨hb1.widen (fun k e => .inl e), fun k e => .inl e⟩⟩
end Go.Proofs.Ytnkdbkgihemjnaa
