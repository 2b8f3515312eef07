/- The walk over disk.Write. -/
import Derived.Test.YtnkdbkgihemjnaaDskWrite
namespace Go.Proofs.Ytnkdbkgihemjnaa
set_option linter.unusedSimpArgs false
set_option linter.unusedVariables false
open Go.RowKit

theorem elemW : Elem Try.prog 112 129 136 := elem_of (z := .agg (Value.int .i64 0 :: bvs zblk).toArray) (by kernel_rfl) (by rw [Value.cells, List.size_toArray, List.length_cons, bvs_len]; simp [zblk]) (by omega)
theorem wrZ : ZeroIs Try.prog 112 (Value.int .i64 0 :: bvs zblk).toArray := by
  unfold ZeroIs; rw [show (Value.int .i64 0 :: bvs zblk).toArray.size = 129 from by rw [List.size_toArray, List.length_cons, bvs_len]; simp [zblk]]; kernel_rfl
theorem wrZ_size : (Value.int .i64 0 :: bvs zblk).toArray.size = 129 := by rw [List.size_toArray, List.length_cons, bvs_len]; simp [zblk]
theorem built_write (i : Int) {b : Blk} (hb : b.length = 128) : Try.prog.built 112 [(0, .int .i64 i), (1, .agg (bvs b).toArray)] = some (Value.int .i64 i :: bvs b).toArray :=
  built_two (n := 128) wrZ wrZ_size (by kernel_rfl) _ rfl _ (by rw [bvs_len, hb])
theorem slice_write (i : Int) {b : Blk} (hb : b.length = 128) (w : World) : (Instr.buildSlice 105 1 #[(0, .agg (Value.int .i64 i :: bvs b).toArray)]).run Try.prog w = .ok (.slice (some ⟨w.heap.size, 0, none⟩) 1 1) (w.alloc (.cells (Value.int .i64 i :: bvs b).toArray 112)) :=
  run_slice1 wrZ (by kernel_rfl) (s := 129) (by rw [List.size_toArray, List.length_cons, bvs_len]; simp [zblk]) (by omega) (by omega) _ (by rw [List.length_cons, bvs_len, hb]) w

theorem Dk.pushed {w1 w2 : World} {base p B : Nat} {v v' : Value} {s : DS} {tmp : Obj} {x : Nat × Blk} (h : Dk w1 base p B v s) (hg : (w1.alloc tmp).grownBy w2 v.ownBlock)
    (hown2 : w2.ownsRow base 112 129 v' (s.lo.length + 1) (lcs s.lo ++ wcs x)) (hat : v'.ownBlock = v.ownBlock ∨ v'.ownBlock = some (w1.alloc tmp).heap.size) (hx : x.1 < s.bl.length ∧ x.2.length = 128) :
    Dk (w2.setCell ⟨p, 1, none⟩ v') base p B v' { s with lo := s.lo ++ [x] } ∧ DStep p B v v' w1 (w2.setCell ⟨p, 1, none⟩ v') := by
  have hlt := h.lt
  have hp2 : w2.heap[p]? = some (.cells (dkCells B v s) 107) := (hg.block p (by simp; omega) (fun e => h.vp e.symm)).trans ((Below.heap_alloc _ _ _ hlt.1).trans h.hd)
  have hB2 : w2.heap[B]? = some (.cells (bcs s.bl).toArray 40) := (hg.block B (by simp; omega) (fun e => h.vB e.symm)).trans ((Below.heap_alloc _ _ _ hlt.2).trans h.bl)
  have hv' : ∀ k, v'.ownBlock = some k → v.ownBlock = some k ∨ k = w1.heap.size + 1 := fun k hk => by
    rcases hat with e | e
    · exact .inl (by rw [← e]; exact hk)
    · right; rw [e] at hk; simpa using hk.symm
  refine ⟨⟨?_, ?_, ?_, h.pB, h.bp, h.bB, ?_, ?_, ?_⟩, ?_, ?_⟩
  · exact blk_set hp2 1 v'
  · exact blk_far hB2 _ (fun e => h.pB e.symm)
  · have hl : lcs (s.lo ++ [x]) = lcs s.lo ++ wcs x := by simp [lcs]
    show (w2.setCell ⟨p, 1, none⟩ v').ownsRow base _ 129 v' (s.lo ++ [x]).length (lcs (s.lo ++ [x]))
    rw [hl, List.length_append, List.length_singleton]
    refine ⟨hown2.1, ?_⟩
    rcases hown2.2 with ⟨_, e⟩ | ⟨g, cap, cur, e, h1, h2, h3⟩
    · omega
    · refine .inr ⟨g, cap, cur, e, h1, blk_far h2 _ (fun (ee : g = p) => ?_), h3⟩
      rcases hv' g (by rw [e]; rfl) with e2 | e2
      · exact h.vp (ee ▸ e2)
      · omega
  · exact fun e => by
      rcases hv' p e with e2 | e2
      · exact h.vp e2
      · omega
  · exact fun e => by
      rcases hv' B e with e2 | e2
      · exact h.vB e2
      · omega
  · exact ⟨h.ok.bl, fun y hy => by
      rcases List.mem_append.1 hy with h1 | h1
      · exact h.ok.lo y h1
      · obtain rfl := List.mem_singleton.1 h1; exact hx, h.ok.n16, h.ok.n128, h.ok.f63⟩
  · exact (((But.refl w1.heap.size (Own p B v) w1).alloc (Nat.le_refl _) tmp).grown hg (by simp) (fun k hk => .inr (.inr (.inr hk)))).set (X := Own p B v) (p := ⟨p, 1, none⟩) (.inl rfl) v'
  · intro k hk
    rcases hv' k hk with e | e
    · exact .inl e
    · exact .inr (by omega)

attribute [-go_sem] Instr.buildSlice Builtin.append_
set_option maxHeartbeats 2000000 in
set_option maxRecDepth 100000 in
theorem write_any {w : World} {base p B : Nat} {v : Value} {s : DS} (h : Dk w base p B v s) (hd : s.done < 4611686018427387904) (hl : s.lo.length < 1000000) (i : Int) {b : Blk} (hb : b.length = 128) :
    Calls Try.prog 21 #[dp p, .int .i64 i, bkv b] w fun e w' => e = .returned (.int .i64 (s.writeE i)) ∧ ∃ v', Dk w' base p B v' (s.write i b) ∧ DStep p B v v' w w' := by
  unfold bkv
  generalize hW : w.alloc (.cells (bvs b).toArray 40) = W
  have hBW : Below w.heap.size w W := by rw [← hW]; exact (Below.refl _ _).alloc (Nat.le_refl _) _
  have bb : W.heap[w.heap.size]? = some (.cells (bvs b).toArray 40) := by rw [← hW]; exact heap_alloc_new _ _
  have hk := h.below hBW
  have hlt := h.lt
  have hhas := dhas_any hk i
  have hpass := pass_any hk hd
  have HST : Hid (DStep p B v v w W) := Lib.hid ⟨but_of hBW, fun k e => .inl e⟩
  cases hin : s.inB i
  · have hwe : Hid (s.writeE i = 1 ∧ s.write i b = s) := Lib.hid (by simp [DS.writeE, DS.write, hin])
    rw [hin] at hhas
    unfold dp at *
    go_enter Try.func21, Try.ntmps21
    go_wp2_with fail
    refine hhas.mono ?_
    rintro e w' ⟨rfl, rfl⟩
    go_wp2_with fail
    go_ret
    rw [hwe.out.1, hwe.out.2]
    exact ⟨rfl, v, hk, HST.out⟩
  · rw [hin] at hhas
    cases hs : s.stops
    · have hwe : Hid (s.writeE i = 0 ∧ s.passE = 0 ∧ s.pass = s.gone ∧ s.write i b = { s.gone with lo := s.lo ++ [(i.toNat, b)] }) := Lib.hid (by simp [DS.writeE, DS.passE, DS.write, DS.pass, hin, hs])
      have hi := DS.inB_iff.1 hin
      rw [hwe.out.2.1, hwe.out.2.2.1] at hpass
      unfold dp at *
      go_enter Try.func21, Try.ntmps21
      go_wp2_with fail
      refine hhas.mono ?_
      rintro e w' ⟨rfl, rfl⟩
      go_wp2_with fail
      refine hpass.mono ?_
      rintro e w1 ⟨rfl, hk1, hb1⟩
      have bb1 := hb1.blk (by have := (Array.getElem?_eq_some_iff.1 bb).1; omega) (fun e => by omega) bb
      obtain ⟨hb0, c0, c1, c2, c3, c4, fr⟩ := hk1.hds
      have hld := run_loadVar_row (P := Try.prog) w1 _ _ 40 _ _ _ bb1 Try.underlying40 rfl (bk_info hb)
      have hsl := fun W => slice_write i hb W
      have hbt2 := built_write i hb
      have hown := hk1.lo
      have hlt1 := hk1.lt
      have HK1 := Lib.hid hk1
      have hbase := h.bp
      have hsz1 := hb1.size
      have hszW := hBW.size
      have HK := Lib.hid (fun k hx => (h.own_ge k hx).2)
      clear hk1 hk h
      go_wp2_with fail
      have hszz : w.heap.size + 1 ≤ w1.heap.size := by have := (Array.getElem?_eq_some_iff.1 bb).1; omega
      have hmx : Try.prog.follows .mixedOrders = true := by kernel_rfl
      let S : World → Prop := fun w' => w'.rangeAt w.heap.size 0 (bvs b)
      have hbt : ∀ w', But (w.heap.size + 1) (fun k => Own p B v k) w1 w' → S w' := fun w' hw' => hw'.range (by omega) (fun hx => by have := HK.out _ hx; omega) (by intro j u hj; rw [Nat.zero_add]; exact blk_cell bb1 (by simpa using hj))
      have HBT := Lib.hid hbt
      have hS0 : S w1.drew := hbt _ (But.refl _ _ w1).drew
      clear hbt
      have hwc : wcs (i.toNat, b) = Value.int .i64 i :: bvs b := by unfold wcs; rw [Int.toNat_of_nonneg hi.1]
      have hwo : ∀ u ∈ (Value.int .i64 i :: bvs b), u.oneCell' = true := fun u hu => one_lcs [(i.toNat, b)] u (by unfold lcs; rw [List.flatMap_cons, List.flatMap_nil, List.append_nil, hwc]; exact hu)
      have hgl : s.gone.lo.length = s.lo.length := rfl
      obtain ⟨A2, c2, w2, hrun, hown2, hg2, hat2⟩ := run_app (P := Try.prog) (w1.drew.alloc (.cells (Value.int .i64 i :: bvs b).toArray 112)) (ty := 105) (t := 105) Try.underlying105 elemW (hown.drew.alloc _) (Sl.new (n := 1) (heap_alloc_new _ _) (by rw [List.length_cons, bvs_len, hb])) (c := 1) hwo (by simp only [maxLen]; omega) (by omega) (by rw [World.size_alloc]; show base ≤ w1.heap.size + 1; omega)
      replace hrun : (Builtin.append_ #[105, 105] 105 #[v, .slice (some ⟨w1.heap.size, 0, none⟩) 1 1]).run Try.prog (w1.alloc (.cells (Value.int .i64 i :: bvs b).toArray 112)).drew = .ok (.slice A2 (s.gone.lo.length + 1) c2) w2 := hrun
      have q12 := HK1.out.below (w' := w1.drew) ((Below.refl _ _).drew)
      have q := q12.pushed (x := (i.toNat, b)) hg2 (by rw [hwc]; exact hown2) hat2 ⟨by have : s.gone.bl = s.bl := rfl; rw [this]; show i.toNat < _; omega, hb⟩
      have bw2 : But w1.heap.size (Own p B v) w1 w2 := (((But.refl _ _ w1).drew).alloc (Nat.le_refl _) _).grown hg2 (by rw [World.size_alloc]; exact Nat.le_succ _) (fun k hk => .inr (.inr (.inr hk)))
      have hp2 : w2.heap[p]? = some (.cells (dkCells B v s.gone) 107) := (hg2.block p (by rw [World.size_alloc]; show p < w1.heap.size + 1; omega) (fun e => HK1.out.vp e.symm)).trans ((Below.heap_alloc _ _ _ hlt1.1).trans HK1.out.hd)
      have cc1 := blk_cell hp2 (k := 1) rfl
      have ff1 := blk_frozen hp2 1
      have hS2 := HBT.out _ (bw2.less (by omega))
      have hS3 := HBT.out _ ((bw2.less (by omega)).set (p := ⟨p, 1, none⟩) (.inl rfl) (.slice A2 (s.gone.lo.length + 1) c2))
      have hSa := HBT.out _ ((((But.refl (w.heap.size + 1) (Own p B v) w1).drew).alloc (by show w.heap.size + 1 ≤ w1.heap.size; omega) (.cells (Value.int .i64 i :: bvs b).toArray 112)))
      have ca1 : (w1.drew.alloc (.cells (Value.int .i64 i :: bvs b).toArray 112)).cell? ⟨p, 1, none⟩ = some v := (World.cell?_alloc_lt _ _ _ hlt1.1).trans c1
      have HQ := Lib.hid q
      clear hg2 hown2 hat2 hp2 q q12 bw2 hwc hwo hgl
      refine wp_region_held (S := S) hmx ?_
      change wpAnyH _ _ _ _ S _ _ _ w1.drew
      refine wpAnyH_take (i := 0) (oi := ?oi_1) (v := ?v_1) ?ho_1 ?h1_1 ?h2_1 ?h3_1 ?hq_1 (Or.inl ⟨?hw_1, ?hy_1⟩) ?hs_1 ?rest_1; (case h2_1 => kernel_rfl); (case h3_1 => kernel_rfl); (case ho_1 => (simp only [List.getElem?_toArray, List.getElem?_cons_zero, List.getElem?_cons_succ]; rfl)); (case h1_1 => kernel_rfl); (case hq_1 => exact fun _ _ _ h => h); (case hw_1 => rfl); (case hy_1 => (intro w' hSw; (try simp only [S] at hSw); go_simp; (try with_reducible rfl))); (case hs_1 => assumption); (try simp only [Act.put, List.setIfInBounds_toArray, List.set_cons_zero, List.set_cons_succ])
      refine wpAnyH_take (i := 1) (oi := ?oi_2) (v := ?v_2) ?ho_2 ?h1_2 ?h2_2 ?h3_2 ?hq_2 (Or.inl ⟨?hw_2, ?hy_2⟩) ?hs_2 ?rest_2; (case h2_2 => kernel_rfl); (case h3_2 => kernel_rfl); (case ho_2 => (simp only [List.getElem?_toArray, List.getElem?_cons_zero, List.getElem?_cons_succ]; rfl)); (case h1_2 => kernel_rfl); (case hq_2 => exact fun _ _ _ h => h); (case hw_2 => rfl); (case hy_2 => (intro w' hSw; (try simp only [S] at hSw); go_simp; (try with_reducible rfl))); (case hs_2 => assumption); (try simp only [Act.put, List.setIfInBounds_toArray, List.set_cons_zero, List.set_cons_succ])
      refine wpAnyH_take (i := 2) (oi := ?oi_3) (v := ?v_3) ?ho_3 ?h1_3 ?h2_3 ?h3_3 ?hq_3 (Or.inl ⟨?hw_3, ?hy_3⟩) ?hs_3 ?rest_3; (case h2_3 => kernel_rfl); (case h3_3 => kernel_rfl); (case ho_3 => (simp only [List.getElem?_toArray, List.getElem?_cons_zero, List.getElem?_cons_succ]; rfl)); (case h1_3 => kernel_rfl); (case hq_3 => exact fun _ _ _ h => h); (case hw_3 => rfl); (case hy_3 => (intro w' hSw; (try simp only [S] at hSw); go_simp; (try with_reducible rfl))); (case hs_3 => assumption); (try simp only [Act.put, List.setIfInBounds_toArray, List.set_cons_zero, List.set_cons_succ])
      refine wpAnyH_take (i := 3) (oi := ?oi_4) (v := ?v_4) ?ho_4 ?h1_4 ?h2_4 ?h3_4 ?hq_4 (Or.inl ⟨?hw_4, ?hy_4⟩) ?hs_4 ?rest_4; (case h2_4 => kernel_rfl); (case h3_4 => kernel_rfl); (case ho_4 => (simp only [List.getElem?_toArray, List.getElem?_cons_zero, List.getElem?_cons_succ]; rfl)); (case h1_4 => kernel_rfl); (case hq_4 => exact fun _ _ _ h => h); (case hw_4 => rfl); (case hy_4 => (intro w' hSw; (try simp only [S] at hSw); go_simp; (try with_reducible rfl))); (case hs_4 => assumption); (try simp only [Act.put, List.setIfInBounds_toArray, List.set_cons_zero, List.set_cons_succ])
      refine wpAnyH_take (i := 5) (oi := ?oi_5) (v := ?v_5) ?ho_5 ?h1_5 ?h2_5 ?h3_5 ?hq_5 (Or.inl ⟨?hw_5, ?hy_5⟩) ?hs_5 ?rest_5; (case h2_5 => kernel_rfl); (case h3_5 => kernel_rfl); (case ho_5 => (simp only [List.getElem?_toArray, List.getElem?_cons_zero, List.getElem?_cons_succ]; rfl)); (case h1_5 => kernel_rfl); (case hq_5 => exact fun _ _ _ h => h); (case hw_5 => rfl); (case hy_5 => (intro w' hSw; (try simp only [S] at hSw); go_simp; (try with_reducible rfl))); (case hs_5 => assumption); (try simp only [Act.put, List.setIfInBounds_toArray, List.set_cons_zero, List.set_cons_succ])
      refine wpAnyH_take (i := 6) (oi := ?oi_10) (v := ?v_10) ?ho_10 ?h1_10 ?h2_10 ?h3_10 ?hq_10 (Or.inl ⟨?hw_10, ?hy_10⟩) ?hs_10 ?rest_10; (case h2_10 => kernel_rfl); (case h3_10 => kernel_rfl); (case ho_10 => (simp only [List.getElem?_toArray, List.getElem?_cons_zero, List.getElem?_cons_succ]; rfl)); (case h1_10 => kernel_rfl); (case hq_10 => exact fun _ _ _ h => h); (case hw_10 => rfl); (case hy_10 => (intro w' hSw; refine exec_load_row (x := .tmp 5) ?_ ?_ hSw Try.underlying40 ?_ (bk_len hb) <;> rfl)); (case hs_10 => assumption); (try simp only [Act.put, List.setIfInBounds_toArray, List.set_cons_zero, List.set_cons_succ])
      refine wpAnyH_take (i := 7) (oi := ?oi_11) (v := ?v_11) ?ho_11 ?h1_11 ?h2_11 ?h3_11 ?hq_11 (Or.inl ⟨?hw_11, ?hy_11⟩) ?hs_11 ?rest_11; (case h2_11 => kernel_rfl); (case h3_11 => kernel_rfl); (case ho_11 => (simp only [List.getElem?_toArray, List.getElem?_cons_zero, List.getElem?_cons_succ]; rfl)); (case h1_11 => kernel_rfl); (case hq_11 => exact fun _ _ _ h => h); (case hw_11 => rfl); (case hy_11 => (intro w' hSw; refine exec_built (t := 112) (parts := #[(0, .tmp 22), (1, .tmp 23)]) (cs := (Value.int .i64 i :: bvs b).toArray) ?_ ?_ w'; rfl; (simp only [List.map_toArray, List.map_cons, List.map_nil]; exact hbt2))); (case hs_11 => assumption); (try simp only [Act.put, List.setIfInBounds_toArray, List.set_cons_zero, List.set_cons_succ])
      clear hld bb1 bb hW HBT
      refine wpAnyH_ready (rs := [4, 8]) (by kernel_rfl) (by simp) (AllReadyH.cons (o := ?oo4_12) ?hoo4_12 (fun K hK => ?step4) (AllReadyH.cons (o := ?oo8_12) ?hoo8_12 (fun K hK => ?step8) AllReadyH.nil)); (case hoo4_12 => (simp only [List.getElem?_toArray, List.getElem?_cons_zero, List.getElem?_cons_succ]; rfl)); (case hoo8_12 => (simp only [List.getElem?_toArray, List.getElem?_cons_zero, List.getElem?_cons_succ]; rfl))
      case step4 =>
        go_simp
        refine hK.out _ _ hS0 (fun _ => ?_)
        clear hK K
        (try simp only [Act.put, List.setIfInBounds_toArray, List.set_cons_zero, List.set_cons_succ])
        refine wpAnyH_ready (rs := [8]) (by kernel_rfl) (by simp) (AllReadyH.cons (o := ?oo8_13) ?hoo8_13 (fun K hK => ?steponly13) AllReadyH.nil); (case hoo8_13 => (simp only [List.getElem?_toArray, List.getElem?_cons_zero, List.getElem?_cons_succ]; rfl))
        go_simp
        refine hK.out _ _ hSa (fun _ => ?_)
        clear hK K
        (try simp only [Act.put, List.setIfInBounds_toArray, List.set_cons_zero, List.set_cons_succ])
        refine wpAnyH_ready (rs := [9]) (by kernel_rfl) (by simp) (AllReadyH.cons (o := ?oo9_14) ?hoo9_14 (fun K hK => ?steponly14) AllReadyH.nil); (case hoo9_14 => (simp only [List.getElem?_toArray, List.getElem?_cons_zero, List.getElem?_cons_succ]; rfl))
        go_simp
        refine hK.out _ _ hS2 (fun _ => ?_)
        clear hK K
        (try simp only [Act.put, List.setIfInBounds_toArray, List.set_cons_zero, List.set_cons_succ])
        refine wpAnyH_take (i := 10) (oi := ?oi_6) (v := ?v_6) ?ho_6 ?h1_6 ?h2_6 ?h3_6 ?hq_6 (Or.inl ⟨?hw_6, ?hy_6⟩) ?hs_6 ?rest_6; (case h2_6 => kernel_rfl); (case h3_6 => kernel_rfl); (case ho_6 => (simp only [List.getElem?_toArray, List.getElem?_cons_zero, List.getElem?_cons_succ]; rfl)); (case h1_6 => kernel_rfl); (case hq_6 => exact fun _ _ _ h => h); (case hw_6 => rfl); (case hy_6 => (intro w' hSw; (try simp only [S] at hSw); go_simp; (try with_reducible rfl))); (case hs_6 => assumption); (try simp only [Act.put, List.setIfInBounds_toArray, List.set_cons_zero, List.set_cons_succ])
        refine wpAnyH_take (i := 11) (oi := ?oi_7) (v := ?v_7) ?ho_7 ?h1_7 ?h2_7 ?h3_7 ?hq_7 (Or.inl ⟨?hw_7, ?hy_7⟩) ?hs_7 ?rest_7; (case h2_7 => kernel_rfl); (case h3_7 => kernel_rfl); (case ho_7 => (simp only [List.getElem?_toArray, List.getElem?_cons_zero, List.getElem?_cons_succ]; rfl)); (case h1_7 => kernel_rfl); (case hq_7 => exact fun _ _ _ h => h); (case hw_7 => rfl); (case hy_7 => (intro w' hSw; (try simp only [S] at hSw); go_simp; (try with_reducible rfl))); (case hs_7 => assumption); (try simp only [Act.put, List.setIfInBounds_toArray, List.set_cons_zero, List.set_cons_succ])
        refine wpAnyH_ready (rs := [12]) (by kernel_rfl) (by simp) (AllReadyH.cons (o := ?oo12_15) ?hoo12_15 (fun K hK => ?steponly15) AllReadyH.nil); (case hoo12_15 => (simp only [List.getElem?_toArray, List.getElem?_cons_zero, List.getElem?_cons_succ]; rfl))
        go_simp
        refine hK.out _ _ hS3 (fun _ => ?_)
        clear hK K
        (try simp only [Act.put, List.setIfInBounds_toArray, List.set_cons_zero, List.set_cons_succ])
        refine wpAnyH_done (by kernel_rfl) ?_ _
        go_wp2
        go_ret
        rw [hwe.out.1, hwe.out.2.2.2]
        exact ⟨rfl, _, HQ.out.1, HST.out.trans (DStep.trans ⟨hb1.widen (fun k e => .inl e), fun k e => .inl e⟩ (DStep.trans ⟨(But.refl _ _ w1).drew, fun k e => .inl e⟩ HQ.out.2))⟩
      case step8 =>
        go_simp
        refine hK.out _ _ hSa (fun _ => ?_)
        clear hK K
        (try simp only [Act.put, List.setIfInBounds_toArray, List.set_cons_zero, List.set_cons_succ])
        refine wpAnyH_ready (rs := [4]) (by kernel_rfl) (by simp) (AllReadyH.cons (o := ?oo4_16) ?hoo4_16 (fun K hK => ?steponly16) AllReadyH.nil); (case hoo4_16 => (simp only [List.getElem?_toArray, List.getElem?_cons_zero, List.getElem?_cons_succ]; rfl))
        go_simp
        refine hK.out _ _ hSa (fun _ => ?_)
        clear hK K
        (try simp only [Act.put, List.setIfInBounds_toArray, List.set_cons_zero, List.set_cons_succ])
        refine wpAnyH_ready (rs := [9]) (by kernel_rfl) (by simp) (AllReadyH.cons (o := ?oo9_17) ?hoo9_17 (fun K hK => ?steponly17) AllReadyH.nil); (case hoo9_17 => (simp only [List.getElem?_toArray, List.getElem?_cons_zero, List.getElem?_cons_succ]; rfl))
        go_simp
        refine hK.out _ _ hS2 (fun _ => ?_)
        clear hK K
        (try simp only [Act.put, List.setIfInBounds_toArray, List.set_cons_zero, List.set_cons_succ])
        refine wpAnyH_take (i := 10) (oi := ?oi_8) (v := ?v_8) ?ho_8 ?h1_8 ?h2_8 ?h3_8 ?hq_8 (Or.inl ⟨?hw_8, ?hy_8⟩) ?hs_8 ?rest_8; (case h2_8 => kernel_rfl); (case h3_8 => kernel_rfl); (case ho_8 => (simp only [List.getElem?_toArray, List.getElem?_cons_zero, List.getElem?_cons_succ]; rfl)); (case h1_8 => kernel_rfl); (case hq_8 => exact fun _ _ _ h => h); (case hw_8 => rfl); (case hy_8 => (intro w' hSw; (try simp only [S] at hSw); go_simp; (try with_reducible rfl))); (case hs_8 => assumption); (try simp only [Act.put, List.setIfInBounds_toArray, List.set_cons_zero, List.set_cons_succ])
        refine wpAnyH_take (i := 11) (oi := ?oi_9) (v := ?v_9) ?ho_9 ?h1_9 ?h2_9 ?h3_9 ?hq_9 (Or.inl ⟨?hw_9, ?hy_9⟩) ?hs_9 ?rest_9; (case h2_9 => kernel_rfl); (case h3_9 => kernel_rfl); (case ho_9 => (simp only [List.getElem?_toArray, List.getElem?_cons_zero, List.getElem?_cons_succ]; rfl)); (case h1_9 => kernel_rfl); (case hq_9 => exact fun _ _ _ h => h); (case hw_9 => rfl); (case hy_9 => (intro w' hSw; (try simp only [S] at hSw); go_simp; (try with_reducible rfl))); (case hs_9 => assumption); (try simp only [Act.put, List.setIfInBounds_toArray, List.set_cons_zero, List.set_cons_succ])
        refine wpAnyH_ready (rs := [12]) (by kernel_rfl) (by simp) (AllReadyH.cons (o := ?oo12_18) ?hoo12_18 (fun K hK => ?steponly18) AllReadyH.nil); (case hoo12_18 => (simp only [List.getElem?_toArray, List.getElem?_cons_zero, List.getElem?_cons_succ]; rfl))
        go_simp
        refine hK.out _ _ hS3 (fun _ => ?_)
        clear hK K
        (try simp only [Act.put, List.setIfInBounds_toArray, List.set_cons_zero, List.set_cons_succ])
        refine wpAnyH_done (by kernel_rfl) ?_ _
        go_wp2
        go_ret
        rw [hwe.out.1, hwe.out.2.2.2]
        exact ⟨rfl, _, HQ.out.1, HST.out.trans (DStep.trans ⟨hb1.widen (fun k e => .inl e), fun k e => .inl e⟩ (DStep.trans ⟨(But.refl _ _ w1).drew, fun k e => .inl e⟩ HQ.out.2))⟩
    · have hwe : Hid (s.writeE i = 12 ∧ s.passE = 12 ∧ s.pass = s.cut ∧ s.write i b = s.cut) := Lib.hid (by simp [DS.writeE, DS.passE, DS.write, DS.pass, hin, hs])
      rw [hwe.out.2.1, hwe.out.2.2.1] at hpass
      unfold dp at *
      go_enter Try.func21, Try.ntmps21
      go_wp2_with fail
      refine hhas.mono ?_
      rintro e w' ⟨rfl, rfl⟩
      go_wp2_with fail
      refine hpass.mono ?_
      rintro e w1 ⟨rfl, hk1, hb1⟩
      clear hk h
      go_wp2_with fail
      go_ret
      rw [hwe.out.1, hwe.out.2.2.2]
      exact ⟨rfl, v, hk1, HST.out.trans ⟨hb1.widen (fun k e => .inl e), fun k e => .inl e⟩⟩
end Go.Proofs.Ytnkdbkgihemjnaa
