/- The walk over codexref01's Write. -/
import Derived.Test.YthbaogjamenndaaDskRWalk
namespace Go.Proofs.Ythbaogjamenndaa
set_option linter.unusedSimpArgs false
set_option linter.unusedVariables false
open Go.RowKit

theorem relemW : Elem Try.prog 90 129 136 := elem_of (z := .agg (Value.int .i64 0 :: bvs zblk).toArray) (by kernel_rfl) (by rw [Value.cells, List.size_toArray, List.length_cons, bvs_len]; simp [zblk]) (by omega)
theorem rwrZ : ZeroIs Try.prog 90 (Value.int .i64 0 :: bvs zblk).toArray := by
  unfold ZeroIs; rw [show (Value.int .i64 0 :: bvs zblk).toArray.size = 129 from by rw [List.size_toArray, List.length_cons, bvs_len]; simp [zblk]]; kernel_rfl
theorem rwrZ_size : (Value.int .i64 0 :: bvs zblk).toArray.size = 129 := by rw [List.size_toArray, List.length_cons, bvs_len]; simp [zblk]
theorem rbuilt_write (i : Int) {b : Blk} (hb : b.length = 128) : Try.prog.built 90 [(0, .int .i64 i), (1, .agg (bvs b).toArray)] = some (Value.int .i64 i :: bvs b).toArray :=
  built_two (n := 128) rwrZ rwrZ_size (by kernel_rfl) _ rfl _ (by rw [bvs_len, hb])
theorem rslice_write (i : Int) {b : Blk} (hb : b.length = 128) (w : World) : (Instr.buildSlice 67 1 #[(0, .agg (Value.int .i64 i :: bvs b).toArray)]).run Try.prog w = .ok (.slice (some ⟨w.heap.size, 0, none⟩) 1 1) (w.alloc (.cells (Value.int .i64 i :: bvs b).toArray 90)) :=
  run_slice1 rwrZ (by kernel_rfl) (s := 129) (by rw [List.size_toArray, List.length_cons, bvs_len]; simp [zblk]) (by omega) (by omega) _ (by rw [List.length_cons, bvs_len, hb]) w

theorem RDk.pushed {w1 w2 : World} {base p B : Nat} {v v' : Value} {s : DS} {F : Int} {tmp : Obj} {x : Nat × Blk} (h : RDk w1 base p B v s F) (hg : (w1.alloc tmp).grownBy w2 v.ownBlock)
    (hown2 : w2.ownsRow base 90 129 v' (s.lo.length + 1) (lcs s.lo ++ wcs x)) (hat : v'.ownBlock = v.ownBlock ∨ v'.ownBlock = some (w1.alloc tmp).heap.size) (hx : x.1 < s.bl.length ∧ x.2.length = 128) :
    RDk (w2.setCell ⟨p, 1, none⟩ v') base p B v' { s with lo := s.lo ++ [x] } F ∧ DStep p B v v' w1 (w2.setCell ⟨p, 1, none⟩ v') := by
  have hlt := h.lt
  have hp2 : w2.heap[p]? = some (.cells (rHead B s.bl.length v F s.done s.down) 69) := (hg.block p (by simp; omega) (fun e => h.vp e.symm)).trans ((Below.heap_alloc _ _ _ hlt.1).trans h.hd)
  have hB2 : w2.heap[B]? = some (.cells (bcs s.bl).toArray 55) := (hg.block B (by simp; omega) (fun e => h.vB e.symm)).trans ((Below.heap_alloc _ _ _ hlt.2).trans h.bl)
  have hv' : ∀ k, v'.ownBlock = some k → v.ownBlock = some k ∨ k = w1.heap.size + 1 := fun k hk => by
    rcases hat with e | e
    · exact .inl (by rw [← e]; exact hk)
    · right; rw [e] at hk; simpa using hk.symm
  refine ⟨⟨?_, ?_, ?_, h.pB, h.bp, h.bB, ?_, ?_, ?_, h.hF, h.f63⟩, ?_, ?_⟩
  · exact blk_set hp2 1 v'
  · exact blk_far hB2 _ (fun e => h.pB e.symm)
  · have hl : lcs (s.lo ++ [x]) = lcs s.lo ++ wcs x := by simp [lcs]
    show (w2.setCell ⟨p, 1, none⟩ v').ownsRow base _ 129 v' (s.lo ++ [x]).length (lcs (s.lo ++ [x]))
    rw [hl, List.length_append, List.length_singleton]
    refine ⟨hown2.1, ?_⟩
    rcases hown2.2 with ⟨_, e⟩ | ⟨g, cap, cur, e, h1, h2, h3⟩
    · omega
    · refine .inr ⟨g, cap, cur, e, h1, blk_far h2 _ (fun (ee : g = p) => ?_), h3⟩
      rcases hv' g (by rw [e]; rfl) with e2 | e2
      · exact h.vp (ee ▸ e2)
      · omega
  · exact fun e => by
      rcases hv' p e with e2 | e2
      · exact h.vp e2
      · omega
  · exact fun e => by
      rcases hv' B e with e2 | e2
      · exact h.vB e2
      · omega
  · exact ⟨h.ok.bl, fun y hy => by
      rcases List.mem_append.1 hy with h1 | h1
      · exact h.ok.lo y h1
      · obtain rfl := List.mem_singleton.1 h1; exact hx, h.ok.n16, h.ok.n128, h.ok.f63⟩
  · exact (((But.refl w1.heap.size (Own p B v) w1).alloc (Nat.le_refl _) tmp).grown hg (by simp) (fun k hk => .inr (.inr (.inr hk)))).set (X := Own p B v) (p := ⟨p, 1, none⟩) (.inl rfl) v'
  · intro k hk
    rcases hv' k hk with e | e
    · exact .inl e
    · exact .inr (by omega)

attribute [-go_sem] Instr.buildSlice Builtin.append_
set_option maxHeartbeats 2000000 in
set_option maxRecDepth 100000 in
theorem rwrite_any {w : World} {base p B : Nat} {v : Value} {s : DS} {F : Int} (h : RDk w base p B v s F) (hd : s.done < 4611686018427387904) (hl : s.lo.length < 1000000) (i : Int) {b : Blk} (hb : b.length = 128) :
    Calls Try.prog 31 #[dp p, .int .i64 i, bkv b] w fun e w' => e = .returned (.int .i64 (s.writeE i)) ∧ ∃ v' F', RDk w' base p B v' (s.write i b) F' ∧ DStep p B v v' w w' := by
  unfold bkv
  generalize hW : w.alloc (.cells (bvs b).toArray 55) = W
  have hBW : Below w.heap.size w W := by rw [← hW]; exact (Below.refl _ _).alloc (Nat.le_refl _) _
  have bb : W.heap[w.heap.size]? = some (.cells (bvs b).toArray 55) := by rw [← hW]; exact heap_alloc_new _ _
  have hk := h.below hBW
  have hlt := h.lt
  have hhas := rhas_any hk i
  have hpass := rgoes_any hk hd
  have HST : Hid (DStep p B v v w W) := Lib.hid ⟨but_of hBW, fun k e => .inl e⟩
  cases hin : s.inB i
  · have hwe : Hid (s.writeE i = 1 ∧ s.write i b = s) := Lib.hid (by simp [DS.writeE, DS.write, hin])
    rw [hin] at hhas
    unfold dp at *
    go_enter Try.func31, Try.ntmps31
    go_wp2_with fail
    refine hhas.mono ?_
    rintro e w' ⟨rfl, rfl⟩
    go_wp2_with fail
    go_ret
    rw [hwe.out.1, hwe.out.2]
    exact ⟨rfl, v, F, hk, HST.out⟩
  · rw [hin] at hhas
    cases hs : s.stops
    · have hwe : Hid (s.writeE i = 0 ∧ s.passE = 0 ∧ s.pass = s.gone ∧ s.write i b = { s.gone with lo := s.lo ++ [(i.toNat, b)] }) := Lib.hid (by simp [DS.writeE, DS.passE, DS.write, DS.pass, hin, hs])
      have hi := DS.inB_iff.1 hin
      rw [hs, hwe.out.2.2.1] at hpass
      unfold dp at *
      go_enter Try.func31, Try.ntmps31
      go_wp2_with fail
      refine hhas.mono ?_
      rintro e w' ⟨rfl, rfl⟩
      go_wp2_with fail
      refine hpass.mono ?_
      rintro e w1 ⟨rfl, F1, hk1, hb1⟩
      have bb1 := hb1.blk (by have := (Array.getElem?_eq_some_iff.1 bb).1; omega) (fun e => by omega) bb
      obtain ⟨hb0, c0, c1, c2, c3, c4, fr⟩ := hk1.hds
      have hld := run_loadVar_row (P := Try.prog) w1 _ _ 55 _ _ _ bb1 Try.underlying55 rfl (bk_info hb)
      have hsl := fun W => rslice_write i hb W
      have hbt2 := rbuilt_write i hb
      have hown := hk1.lo
      have hlt1 := hk1.lt
      have HK1 := Lib.hid hk1
      have hbase := h.bp
      have hsz1 := hb1.size
      have hszW := hBW.size
      have HK := Lib.hid (fun k hx => (h.own_ge k hx).2)
      clear hk1 hk h
      go_wp2_with fail
      have hszz : w.heap.size + 1 ≤ w1.heap.size := by have := (Array.getElem?_eq_some_iff.1 bb).1; omega
      have hmx : Try.prog.follows .mixedOrders = true := by kernel_rfl
      let S : World → Prop := fun w' => w'.rangeAt w.heap.size 0 (bvs b)
      have hbt : ∀ w', But (w.heap.size + 1) (fun k => Own p B v k) w1 w' → S w' := fun w' hw' => hw'.range (by omega) (fun hx => by have := HK.out _ hx; omega) (by intro j u hj; rw [Nat.zero_add]; exact blk_cell bb1 (by simpa using hj))
      have HBT := Lib.hid hbt
      have hS0 : S w1.drew := hbt _ (But.refl _ _ w1).drew
      clear hbt
      have hwc : wcs (i.toNat, b) = Value.int .i64 i :: bvs b := by unfold wcs; rw [Int.toNat_of_nonneg hi.1]
      have hwo : ∀ u ∈ (Value.int .i64 i :: bvs b), u.oneCell' = true := fun u hu => one_lcs [(i.toNat, b)] u (by unfold lcs; rw [List.flatMap_cons, List.flatMap_nil, List.append_nil, hwc]; exact hu)
      have hgl : s.gone.lo.length = s.lo.length := rfl
      obtain ⟨A2, c2, w2, hrun, hown2, hg2, hat2⟩ := run_app (P := Try.prog) (w1.drew.alloc (.cells (Value.int .i64 i :: bvs b).toArray 90)) (ty := 67) (t := 67) Try.underlying67 relemW (hown.drew.alloc _) (Sl.new (n := 1) (heap_alloc_new _ _) (by rw [List.length_cons, bvs_len, hb])) (c := 1) hwo (by simp only [maxLen]; omega) (by omega) (by rw [World.size_alloc]; show base ≤ w1.heap.size + 1; omega)
      replace hrun : (Builtin.append_ #[67, 67] 67 #[v, .slice (some ⟨w1.heap.size, 0, none⟩) 1 1]).run Try.prog (w1.alloc (.cells (Value.int .i64 i :: bvs b).toArray 90)).drew = .ok (.slice A2 (s.gone.lo.length + 1) c2) w2 := hrun
      have q12 := HK1.out.below (w' := w1.drew) ((Below.refl _ _).drew)
      have q := q12.pushed (x := (i.toNat, b)) hg2 (by rw [hwc]; exact hown2) hat2 ⟨by have : s.gone.bl = s.bl := rfl; rw [this]; show i.toNat < _; omega, hb⟩
      have bw2 : But w1.heap.size (Own p B v) w1 w2 := (((But.refl _ _ w1).drew).alloc (Nat.le_refl _) _).grown hg2 (by rw [World.size_alloc]; exact Nat.le_succ _) (fun k hk => .inr (.inr (.inr hk)))
      have hp2 : w2.heap[p]? = some (.cells (rHead B s.gone.bl.length v F1 s.gone.done s.gone.down) 69) := (hg2.block p (by rw [World.size_alloc]; show p < w1.heap.size + 1; omega) (fun e => HK1.out.vp e.symm)).trans ((Below.heap_alloc _ _ _ hlt1.1).trans HK1.out.hd)
      have cc1 := blk_cell hp2 (k := 1) rfl
      have ff1 := blk_frozen hp2 1
      have hS2 := HBT.out _ (bw2.less (by omega))
      have hS3 := HBT.out _ ((bw2.less (by omega)).set (p := ⟨p, 1, none⟩) (.inl rfl) (.slice A2 (s.gone.lo.length + 1) c2))
      have hSa := HBT.out _ ((((But.refl (w.heap.size + 1) (Own p B v) w1).drew).alloc (by show w.heap.size + 1 ≤ w1.heap.size; omega) (.cells (Value.int .i64 i :: bvs b).toArray 90)))
      have ca1 : (w1.drew.alloc (.cells (Value.int .i64 i :: bvs b).toArray 90)).cell? ⟨p, 1, none⟩ = some v := (World.cell?_alloc_lt _ _ _ hlt1.1).trans c1
      have HQ := Lib.hid q
      clear hg2 hown2 hat2 hp2 q q12 bw2 hwc hwo hgl
      refine wp_region_held (S := S) hmx ?_
      change wpAnyH _ _ _ _ S _ _ _ w1.drew
      refine wpAnyH_take (i := 0) (oi := ?oi_36) (v := ?v_36) ?ho_36 ?h1_36 ?h2_36 ?h3_36 ?hq_36 (Or.inl ⟨?hw_36, ?hy_36⟩) ?hs_36 ?rest_36; (case h2_36 => kernel_rfl); (case h3_36 => kernel_rfl); (case ho_36 => (simp only [List.getElem?_toArray, List.getElem?_cons_zero, List.getElem?_cons_succ]; rfl)); (case h1_36 => kernel_rfl); (case hq_36 => exact fun _ _ _ h => h); (case hw_36 => rfl); (case hy_36 => (intro w' hSw; (try simp only [S] at hSw); go_simp; (try with_reducible rfl))); (case hs_36 => assumption); (try simp only [Act.put, List.setIfInBounds_toArray, List.set_cons_zero, List.set_cons_succ])
      refine wpAnyH_take (i := 1) (oi := ?oi_37) (v := ?v_37) ?ho_37 ?h1_37 ?h2_37 ?h3_37 ?hq_37 (Or.inl ⟨?hw_37, ?hy_37⟩) ?hs_37 ?rest_37; (case h2_37 => kernel_rfl); (case h3_37 => kernel_rfl); (case ho_37 => (simp only [List.getElem?_toArray, List.getElem?_cons_zero, List.getElem?_cons_succ]; rfl)); (case h1_37 => kernel_rfl); (case hq_37 => exact fun _ _ _ h => h); (case hw_37 => rfl); (case hy_37 => (intro w' hSw; (try simp only [S] at hSw); go_simp; (try with_reducible rfl))); (case hs_37 => assumption); (try simp only [Act.put, List.setIfInBounds_toArray, List.set_cons_zero, List.set_cons_succ])
      refine wpAnyH_take (i := 2) (oi := ?oi_38) (v := ?v_38) ?ho_38 ?h1_38 ?h2_38 ?h3_38 ?hq_38 (Or.inl ⟨?hw_38, ?hy_38⟩) ?hs_38 ?rest_38; (case h2_38 => kernel_rfl); (case h3_38 => kernel_rfl); (case ho_38 => (simp only [List.getElem?_toArray, List.getElem?_cons_zero, List.getElem?_cons_succ]; rfl)); (case h1_38 => kernel_rfl); (case hq_38 => exact fun _ _ _ h => h); (case hw_38 => rfl); (case hy_38 => (intro w' hSw; (try simp only [S] at hSw); go_simp; (try with_reducible rfl))); (case hs_38 => assumption); (try simp only [Act.put, List.setIfInBounds_toArray, List.set_cons_zero, List.set_cons_succ])
      refine wpAnyH_take (i := 3) (oi := ?oi_39) (v := ?v_39) ?ho_39 ?h1_39 ?h2_39 ?h3_39 ?hq_39 (Or.inl ⟨?hw_39, ?hy_39⟩) ?hs_39 ?rest_39; (case h2_39 => kernel_rfl); (case h3_39 => kernel_rfl); (case ho_39 => (simp only [List.getElem?_toArray, List.getElem?_cons_zero, List.getElem?_cons_succ]; rfl)); (case h1_39 => kernel_rfl); (case hq_39 => exact fun _ _ _ h => h); (case hw_39 => rfl); (case hy_39 => (intro w' hSw; (try simp only [S] at hSw); go_simp; (try with_reducible rfl))); (case hs_39 => assumption); (try simp only [Act.put, List.setIfInBounds_toArray, List.set_cons_zero, List.set_cons_succ])
      refine wpAnyH_take (i := 5) (oi := ?oi_40) (v := ?v_40) ?ho_40 ?h1_40 ?h2_40 ?h3_40 ?hq_40 (Or.inl ⟨?hw_40, ?hy_40⟩) ?hs_40 ?rest_40; (case h2_40 => kernel_rfl); (case h3_40 => kernel_rfl); (case ho_40 => (simp only [List.getElem?_toArray, List.getElem?_cons_zero, List.getElem?_cons_succ]; rfl)); (case h1_40 => kernel_rfl); (case hq_40 => exact fun _ _ _ h => h); (case hw_40 => rfl); (case hy_40 => (intro w' hSw; (try simp only [S] at hSw); go_simp; (try with_reducible rfl))); (case hs_40 => assumption); (try simp only [Act.put, List.setIfInBounds_toArray, List.set_cons_zero, List.set_cons_succ])
      refine wpAnyH_take (i := 6) (oi := ?oi_45) (v := ?v_45) ?ho_45 ?h1_45 ?h2_45 ?h3_45 ?hq_45 (Or.inl ⟨?hw_45, ?hy_45⟩) ?hs_45 ?rest_45; (case h2_45 => kernel_rfl); (case h3_45 => kernel_rfl); (case ho_45 => (simp only [List.getElem?_toArray, List.getElem?_cons_zero, List.getElem?_cons_succ]; rfl)); (case h1_45 => kernel_rfl); (case hq_45 => exact fun _ _ _ h => h); (case hw_45 => rfl); (case hy_45 => (intro w' hSw; refine exec_load_row (x := .tmp 5) ?_ ?_ hSw Try.underlying55 ?_ (bk_len hb) <;> rfl)); (case hs_45 => assumption); (try simp only [Act.put, List.setIfInBounds_toArray, List.set_cons_zero, List.set_cons_succ])
      refine wpAnyH_take (i := 7) (oi := ?oi_46) (v := ?v_46) ?ho_46 ?h1_46 ?h2_46 ?h3_46 ?hq_46 (Or.inl ⟨?hw_46, ?hy_46⟩) ?hs_46 ?rest_46; (case h2_46 => kernel_rfl); (case h3_46 => kernel_rfl); (case ho_46 => (simp only [List.getElem?_toArray, List.getElem?_cons_zero, List.getElem?_cons_succ]; rfl)); (case h1_46 => kernel_rfl); (case hq_46 => exact fun _ _ _ h => h); (case hw_46 => rfl); (case hy_46 => (intro w' hSw; refine exec_built (t := 90) (parts := #[(0, .tmp 19), (1, .tmp 20)]) (cs := (Value.int .i64 i :: bvs b).toArray) ?_ ?_ w'; rfl; (simp only [List.map_toArray, List.map_cons, List.map_nil]; exact hbt2))); (case hs_46 => assumption); (try simp only [Act.put, List.setIfInBounds_toArray, List.set_cons_zero, List.set_cons_succ])
      clear hld bb1 bb hW HBT
      refine wpAnyH_ready (rs := [4, 8]) (by kernel_rfl) (by simp) (AllReadyH.cons (o := ?oo4_47) ?hoo4_47 (fun K hK => ?step4) (AllReadyH.cons (o := ?oo8_47) ?hoo8_47 (fun K hK => ?step8) AllReadyH.nil)); (case hoo4_47 => (simp only [List.getElem?_toArray, List.getElem?_cons_zero, List.getElem?_cons_succ]; rfl)); (case hoo8_47 => (simp only [List.getElem?_toArray, List.getElem?_cons_zero, List.getElem?_cons_succ]; rfl))
      case step4 =>
        go_simp
        refine hK.out _ _ hS0 (fun _ => ?_)
        clear hK K
        (try simp only [Act.put, List.setIfInBounds_toArray, List.set_cons_zero, List.set_cons_succ])
        refine wpAnyH_ready (rs := [8]) (by kernel_rfl) (by simp) (AllReadyH.cons (o := ?oo8_48) ?hoo8_48 (fun K hK => ?steponly48) AllReadyH.nil); (case hoo8_48 => (simp only [List.getElem?_toArray, List.getElem?_cons_zero, List.getElem?_cons_succ]; rfl))
        go_simp
        refine hK.out _ _ hSa (fun _ => ?_)
        clear hK K
        (try simp only [Act.put, List.setIfInBounds_toArray, List.set_cons_zero, List.set_cons_succ])
        refine wpAnyH_ready (rs := [9]) (by kernel_rfl) (by simp) (AllReadyH.cons (o := ?oo9_49) ?hoo9_49 (fun K hK => ?steponly49) AllReadyH.nil); (case hoo9_49 => (simp only [List.getElem?_toArray, List.getElem?_cons_zero, List.getElem?_cons_succ]; rfl))
        go_simp
        refine hK.out _ _ hS2 (fun _ => ?_)
        clear hK K
        (try simp only [Act.put, List.setIfInBounds_toArray, List.set_cons_zero, List.set_cons_succ])
        refine wpAnyH_take (i := 10) (oi := ?oi_41) (v := ?v_41) ?ho_41 ?h1_41 ?h2_41 ?h3_41 ?hq_41 (Or.inl ⟨?hw_41, ?hy_41⟩) ?hs_41 ?rest_41; (case h2_41 => kernel_rfl); (case h3_41 => kernel_rfl); (case ho_41 => (simp only [List.getElem?_toArray, List.getElem?_cons_zero, List.getElem?_cons_succ]; rfl)); (case h1_41 => kernel_rfl); (case hq_41 => exact fun _ _ _ h => h); (case hw_41 => rfl); (case hy_41 => (intro w' hSw; (try simp only [S] at hSw); go_simp; (try with_reducible rfl))); (case hs_41 => assumption); (try simp only [Act.put, List.setIfInBounds_toArray, List.set_cons_zero, List.set_cons_succ])
        refine wpAnyH_take (i := 11) (oi := ?oi_42) (v := ?v_42) ?ho_42 ?h1_42 ?h2_42 ?h3_42 ?hq_42 (Or.inl ⟨?hw_42, ?hy_42⟩) ?hs_42 ?rest_42; (case h2_42 => kernel_rfl); (case h3_42 => kernel_rfl); (case ho_42 => (simp only [List.getElem?_toArray, List.getElem?_cons_zero, List.getElem?_cons_succ]; rfl)); (case h1_42 => kernel_rfl); (case hq_42 => exact fun _ _ _ h => h); (case hw_42 => rfl); (case hy_42 => (intro w' hSw; (try simp only [S] at hSw); go_simp; (try with_reducible rfl))); (case hs_42 => assumption); (try simp only [Act.put, List.setIfInBounds_toArray, List.set_cons_zero, List.set_cons_succ])
        refine wpAnyH_ready (rs := [12]) (by kernel_rfl) (by simp) (AllReadyH.cons (o := ?oo12_50) ?hoo12_50 (fun K hK => ?steponly50) AllReadyH.nil); (case hoo12_50 => (simp only [List.getElem?_toArray, List.getElem?_cons_zero, List.getElem?_cons_succ]; rfl))
        go_simp
        refine hK.out _ _ hS3 (fun _ => ?_)
        clear hK K
        (try simp only [Act.put, List.setIfInBounds_toArray, List.set_cons_zero, List.set_cons_succ])
        refine wpAnyH_done (by kernel_rfl) ?_ _
        go_wp2
        go_ret
        rw [hwe.out.1, hwe.out.2.2.2]
        exact ⟨rfl, _, _, HQ.out.1, HST.out.trans (DStep.trans ⟨hb1.widen (fun k e => .inl e), fun k e => .inl e⟩ (DStep.trans ⟨(But.refl _ _ w1).drew, fun k e => .inl e⟩ HQ.out.2))⟩
      case step8 =>
        go_simp
        refine hK.out _ _ hSa (fun _ => ?_)
        clear hK K
        (try simp only [Act.put, List.setIfInBounds_toArray, List.set_cons_zero, List.set_cons_succ])
        refine wpAnyH_ready (rs := [4]) (by kernel_rfl) (by simp) (AllReadyH.cons (o := ?oo4_51) ?hoo4_51 (fun K hK => ?steponly51) AllReadyH.nil); (case hoo4_51 => (simp only [List.getElem?_toArray, List.getElem?_cons_zero, List.getElem?_cons_succ]; rfl))
        go_simp
        refine hK.out _ _ hSa (fun _ => ?_)
        clear hK K
        (try simp only [Act.put, List.setIfInBounds_toArray, List.set_cons_zero, List.set_cons_succ])
        refine wpAnyH_ready (rs := [9]) (by kernel_rfl) (by simp) (AllReadyH.cons (o := ?oo9_52) ?hoo9_52 (fun K hK => ?steponly52) AllReadyH.nil); (case hoo9_52 => (simp only [List.getElem?_toArray, List.getElem?_cons_zero, List.getElem?_cons_succ]; rfl))
        go_simp
        refine hK.out _ _ hS2 (fun _ => ?_)
        clear hK K
        (try simp only [Act.put, List.setIfInBounds_toArray, List.set_cons_zero, List.set_cons_succ])
        refine wpAnyH_take (i := 10) (oi := ?oi_43) (v := ?v_43) ?ho_43 ?h1_43 ?h2_43 ?h3_43 ?hq_43 (Or.inl ⟨?hw_43, ?hy_43⟩) ?hs_43 ?rest_43; (case h2_43 => kernel_rfl); (case h3_43 => kernel_rfl); (case ho_43 => (simp only [List.getElem?_toArray, List.getElem?_cons_zero, List.getElem?_cons_succ]; rfl)); (case h1_43 => kernel_rfl); (case hq_43 => exact fun _ _ _ h => h); (case hw_43 => rfl); (case hy_43 => (intro w' hSw; (try simp only [S] at hSw); go_simp; (try with_reducible rfl))); (case hs_43 => assumption); (try simp only [Act.put, List.setIfInBounds_toArray, List.set_cons_zero, List.set_cons_succ])
        refine wpAnyH_take (i := 11) (oi := ?oi_44) (v := ?v_44) ?ho_44 ?h1_44 ?h2_44 ?h3_44 ?hq_44 (Or.inl ⟨?hw_44, ?hy_44⟩) ?hs_44 ?rest_44; (case h2_44 => kernel_rfl); (case h3_44 => kernel_rfl); (case ho_44 => (simp only [List.getElem?_toArray, List.getElem?_cons_zero, List.getElem?_cons_succ]; rfl)); (case h1_44 => kernel_rfl); (case hq_44 => exact fun _ _ _ h => h); (case hw_44 => rfl); (case hy_44 => (intro w' hSw; (try simp only [S] at hSw); go_simp; (try with_reducible rfl))); (case hs_44 => assumption); (try simp only [Act.put, List.setIfInBounds_toArray, List.set_cons_zero, List.set_cons_succ])
        refine wpAnyH_ready (rs := [12]) (by kernel_rfl) (by simp) (AllReadyH.cons (o := ?oo12_53) ?hoo12_53 (fun K hK => ?steponly53) AllReadyH.nil); (case hoo12_53 => (simp only [List.getElem?_toArray, List.getElem?_cons_zero, List.getElem?_cons_succ]; rfl))
        go_simp
        refine hK.out _ _ hS3 (fun _ => ?_)
        clear hK K
        (try simp only [Act.put, List.setIfInBounds_toArray, List.set_cons_zero, List.set_cons_succ])
        refine wpAnyH_done (by kernel_rfl) ?_ _
        go_wp2
        go_ret
        rw [hwe.out.1, hwe.out.2.2.2]
        exact ⟨rfl, _, _, HQ.out.1, HST.out.trans (DStep.trans ⟨hb1.widen (fun k e => .inl e), fun k e => .inl e⟩ (DStep.trans ⟨(But.refl _ _ w1).drew, fun k e => .inl e⟩ HQ.out.2))⟩
    · have hwe : Hid (s.writeE i = 12 ∧ s.passE = 12 ∧ s.pass = s.cut ∧ s.write i b = s.cut) := Lib.hid (by simp [DS.writeE, DS.passE, DS.write, DS.pass, hin, hs])
      rw [hs, hwe.out.2.2.1] at hpass
      unfold dp at *
      go_enter Try.func31, Try.ntmps31
      go_wp2_with fail
      refine hhas.mono ?_
      rintro e w' ⟨rfl, rfl⟩
      go_wp2_with fail
      refine hpass.mono ?_
      rintro e w1 ⟨rfl, F1, hk1, hb1⟩
      clear hk h
      go_wp2_with fail
      go_ret
      rw [hwe.out.1, hwe.out.2.2.2]
      exact ⟨rfl, v, F1, hk1, HST.out.trans ⟨hb1.widen (fun k e => .inl e), fun k e => .inl e⟩⟩
end Go.Proofs.Ythbaogjamenndaa
