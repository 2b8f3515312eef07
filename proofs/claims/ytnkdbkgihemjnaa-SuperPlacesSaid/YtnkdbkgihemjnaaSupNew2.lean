/- The walk over super.Newest. -/
import Derived.Test.YtnkdbkgihemjnaaSupNew
namespace Go.Proofs.Ytnkdbkgihemjnaa
set_option linter.unusedSimpArgs false
set_option linter.unusedVariables false
open Go.RowKit Go.ChangeShapes Go.WideShapes Go.Sort Go.Shelf
attribute [local go_sem] Oper.semAt_some

theorem best_zero {l : List SP} (h : (bestL l).gen = 0) : bestL l = sp0 := by
  unfold bestL at *
  suffices ∀ (l : List SP) (b : SP), (b.gen = 0 → b = sp0) → ((l.foldl best1 b).gen = 0 → l.foldl best1 b = sp0) from this l sp0 (fun _ => rfl) h
  intro l
  induction l with
  | nil => intro b hb; exact hb
  | cons x l ih =>
    intro b hb
    refine ih _ ?_
    unfold best1; split
    · intro e; omega
    · exact hb
theorem newest_of {d : DS} (hdn : d.down = false) : d.newest = bestL (d.seq 2) ∧ d.newestE = if (bestL (d.seq 2)).gen = 0 then 13 else 0 := by
  have e := bestL_seq d
  unfold DS.newest DS.newestE
  rw [e, hdn]
  generalize d.best = b
  simp
def BestAt (g : Nat) (pre : List SPO) (W : World) : Prop := W.heap[g]? = some (.cells (bestL (pre.map Subtype.val)).cells.toArray 38)
theorem bestAt_own {B g : Nat} (h : g < B) : OwnFrom B (BestAt g) := blk_own (fun pre : List SPO => (bestL (pre.map Subtype.val)).cells.toArray) h
theorem sp_gen (s : SP) : s.cells.toArray[0]? = some (.int .u32 (s.gen : Int)) := rfl

set_option maxHeartbeats 8000000 in
set_option maxRecDepth 100000 in
theorem newest_nil (w : World) : Calls Try.prog 26 #[.pointer none] w (Ret w (.tuple #[spv sp0, .int .i64 1])) := by
  unfold spv
  obtain ⟨W, hW⟩ : ∃ W, w.alloc (.cells sp0.cells.toArray 38) = W := ⟨_, rfl⟩
  have hBW : Below w.heap.size w W := by rw [← hW]; exact (Below.refl _ _).alloc (Nat.le_refl _) _
  have bb : W.heap[w.heap.size]? = some (.cells sp0.cells.toArray 38) := by rw [← hW]; exact heap_alloc_new _ _
  have hin : (Try.prog.info? 38).map (·.size) = some sp0.cells.toArray.size := sp_info sp0_ok
  have hX2 := setRow_heap W w.heap.size sp0.cells.toArray sp0.cells.toArray 38 _ bb
  have hBX := bSetRow hBW (Nat.le_refl _) sp0.cells.toArray
  have hld := run_loadVar_row (P := Try.prog) (W.setRow w.heap.size sp0.cells.toArray) _ _ 38 _ _ _ hX2 Try.underlying38 rfl hin
  have HX := Lib.hid hBX
  clear hX2 hBX
  go_enter Try.func26, Try.ntmps26
  go_wp2_with (first
    | (refine wpList_new rfl spZ rfl ?_)
    | (refine wpList_built rfl 38 #[] rfl (cs := sp0.cells.toArray) (by simp only [List.map_toArray, List.map_nil]; exact built_sp0) ?_)
    | (refine wpList_store_row rfl 38 (.tmp 2) (.tmp 9) rfl _ sp0.cells.toArray rfl rfl _ sp0.cells.toArray bb hin rfl (all_oneCell_toArray (one_sp _)) ?_)
    | fail)
  refine bodyPost_ret (by simp [results, Try.results26, Act.put, asAddr, Result.andThen, hld]; try rfl) rfl ?_
  exact Ret.mk rfl HX.out

set_option maxHeartbeats 8000000 in
set_option maxRecDepth 100000 in
theorem newest_down {w : World} {base p B : Nat} {v : Value} {d : DS} (h : Dk w base p B v d) (hdn : d.down = true) :
    Calls Try.prog 26 #[dp p] w (Ret w (.tuple #[spv sp0, .int .i64 12])) := by
  unfold spv
  obtain ⟨W, hW⟩ : ∃ W, w.alloc (.cells sp0.cells.toArray 38) = W := ⟨_, rfl⟩
  have hBW : Below w.heap.size w W := by rw [← hW]; exact (Below.refl _ _).alloc (Nat.le_refl _) _
  have bb : W.heap[w.heap.size]? = some (.cells sp0.cells.toArray 38) := by rw [← hW]; exact heap_alloc_new _ _
  have hin : (Try.prog.info? 38).map (·.size) = some sp0.cells.toArray.size := sp_info sp0_ok
  have hX2 := setRow_heap W w.heap.size sp0.cells.toArray sp0.cells.toArray 38 _ bb
  have hBX := bSetRow hBW (Nat.le_refl _) sp0.cells.toArray
  have hld := run_loadVar_row (P := Try.prog) (W.setRow w.heap.size sp0.cells.toArray) _ _ 38 _ _ _ hX2 Try.underlying38 rfl hin
  have HX := Lib.hid hBX
  have hd := down_any (h.below hBW)
  rw [hdn] at hd
  clear hX2 hBX h hdn
  unfold dp at *
  go_enter Try.func26, Try.ntmps26
  go_wp2_with (first
    | (refine wpList_new rfl spZ rfl ?_)
    | fail)
  refine hd.mono ?_
  rintro e w' ⟨rfl, rfl⟩
  go_wp2_with (first
    | (refine wpList_built rfl 38 #[] rfl (cs := sp0.cells.toArray) (by simp only [List.map_toArray, List.map_nil]; exact built_sp0) ?_)
    | (refine wpList_store_row rfl 38 (.tmp 2) (.tmp 13) rfl _ sp0.cells.toArray rfl rfl _ sp0.cells.toArray bb hin rfl (all_oneCell_toArray (one_sp _)) ?_)
    | fail)
  refine bodyPost_ret (by simp [results, Try.results26, Act.put, asAddr, Result.andThen, hld]; try rfl) rfl ?_
  exact Ret.mk rfl HX.out

set_option maxHeartbeats 8000000 in
set_option maxRecDepth 100000 in
theorem newest_up {w : World} {base p B : Nat} {v : Value} {d : DS} (h : Dk w base p B v d) (hlo : d.lo.length < 1000000) (hdn : d.down = false) :
    Calls Try.prog 26 #[dp p] w (Ret w (.tuple #[spv d.newest, .int .i64 d.newestE])) := by
  unfold spv
  obtain ⟨W, hW⟩ : ∃ W, w.alloc (.cells sp0.cells.toArray 38) = W := ⟨_, rfl⟩
  have hBW : Below w.heap.size w W := by rw [← hW]; exact (Below.refl _ _).alloc (Nat.le_refl _) _
  have hzW : W.heap.size = w.heap.size + 1 := by rw [← hW]; simp
  have bb : W.heap[w.heap.size]? = some (.cells sp0.cells.toArray 38) := by rw [← hW]; exact heap_alloc_new _ _
  have hk := h.below hBW
  have hd := down_any hk
  rw [hdn] at hd
  obtain ⟨Y, hY⟩ : ∃ Y, W.alloc (.cells sp0.cells.toArray 38) = Y := ⟨_, rfl⟩
  have hBY : Below W.heap.size W Y := by rw [← hY]; exact (Below.refl _ _).alloc (Nat.le_refl _) _
  have yb : Y.heap[W.heap.size]? = some (.cells sp0.cells.toArray 38) := by rw [← hY]; exact heap_alloc_new _ _
  have hzY : Y.heap.size = w.heap.size + 1 + 1 := by rw [← hY]; simp [hzW]
  rw [hzW] at yb
  have bb1 := bBlk hBY (by omega) bb
  have hrt := fun W => right_any p W
  have HK := Lib.hid (hk.below hBY)
  have HOWN := Lib.hid (fun k hk => (h.own_ge k hk).2)
  clear hk h
  unfold dp at *
  refine (callsIn_wide (n := 11)).1 ?_
  refine callsIn_of_wp_marks Try.func26 rfl trivial ?_ rfl
  simp only [Try.ntmps26, List.size_toArray, List.length_cons, List.length_nil, Nat.reduceAdd, Nat.reduceSub, Array.replicate_succ, Array.replicate_zero, List.push_toArray, List.append_toArray, List.nil_append, List.cons_append]
  gi_wp2_with (first | (refine wpListIn_val rfl (fun c e => by cases e) rfl (exec_new spZ rfl _) ?_) | fail)
  refine ⟨trivial, ?_⟩
  refine (callsIn_wide.2 hd).mono ?_
  rintro e w' ⟨rfl, rfl⟩
  gi_wp2_with (first
    | (refine wpListIn_val rfl (fun c e => by cases e) rfl (exec_new spZ rfl _) ?_)
    | fail)
  refine ⟨trivial, ?_⟩
  refine (callsIn_wide.2 (hrt _)).mono ?_
  rintro e w' ⟨rfl, rfl⟩
  obtain ⟨W1, hW1⟩ : ∃ W1, Y.alloc (.cells #[.pointer (some ⟨p, 0, none⟩)] 25) = W1 := ⟨_, rfl⟩
  have hzW1 : W1.heap.size = w.heap.size + 1 + 1 + 1 := by rw [← hW1]; simp [hzY]
  have hbY1 : Below Y.heap.size Y W1 := by rw [← hW1]; exact (Below.refl _ _).alloc (Nat.le_refl _) _
  have hD1 : W1.heap[w.heap.size + 1 + 1]? = some (.cells #[dp p] 25) := by rw [← hW1, ← hzY]; exact heap_alloc_new _ _
  have yb1 := bBlk hbY1 (by omega) yb
  have bb2 := bBlk hbY1 (by omega) bb1
  have hB1 : Below w.heap.size w W1 := hBW.trans ((hBY.mono (by omega)).trans (hbY1.mono (by omega)))
  have hk1 := HK.out.below hbY1
  have HOW : Hid (∀ k, Own p B v k → k < w.heap.size) := Lib.hid fun k hk => HOWN.out k hk
  obtain ⟨n1, n2⟩ := newest_of hdn
  have HN := Lib.hid (And.intro n1 n2)
  clear n1 n2
  gi_wp2
  let X : Nat → Prop := fun k => k = w.heap.size + 1 + 1 ∨ Own p B v k
  have hXW : ∀ k, X k → k < W1.heap.size := fun k hk => by
    rcases hk with e | e
    · omega
    · have := HOW.out k e; omega
  have hXs : ∀ k, X k → k ≠ w.heap.size + 1 := fun k hk => by
    rcases hk with e | e
    · omega
    · have := HOW.out k e; omega
  let act : SPO → Nat → Act := fun x g => ⟨#[.pointer (some ⟨p, 0, none⟩), undef, .pointer (some ⟨w.heap.size, 0, none⟩), .int .i64 0, .pointer (some ⟨w.heap.size + 1, 0, none⟩), .pointer (some ⟨g, 0, none⟩), .bool false, .pointer (some ⟨p, 0, none⟩), .bool false, undef, .bool false, .pointer (some ⟨p, 0, none⟩), .bool false, undef, .pointer (some ⟨p, 0, none⟩), .func (.func 78) #[] #[.pointer (some ⟨w.heap.size + 1 + 1, 0, none⟩)], .agg x.1.cells.toArray, undef, undef, undef, undef, undef, undef, undef, undef, undef, undef, undef], []⟩
  refine wpIn_rangeFunc_ownH rfl (by omega) (gf := 78) (lb := #[.pointer (some ⟨w.heap.size + 1 + 1, 0, none⟩)]) rfl trivial (enters_of Try.func78 (by kernel_rfl) rfl)
    (right_stops (w.heap.size + 1 + 1) X (.inl rfl) (fun k hk => .inr hk) hlo hdn W1 hXW hD1 hk1)
    (fun h k => h.trans k) (fun W l o o' hl h a c => Hold.obj (w := W1) hXW W l o o' hl h a c) (Below.refl _ _) (fun _ => rfl)
    (fun (pre : List SPO) W => BestAt (w.heap.size + 1) pre W ∧ But W1.heap.size (· = w.heap.size + 1) W1 W)
    (fun _ _ _ => False)
    ((bestAt_own (by omega)).and (But.own (a := W1) (n := W1.heap.size) (X := (· = w.heap.size + 1)) (Nat.le_refl _) (Nat.le_refl _)))
    (fun _ _ _ _ _ hs _ _ => hs)
    ⟨yb1, But.refl _ _ _⟩
    (fun (x : SPO) a' W => ∃ g, a' = act x g ∧ W1.heap.size ≤ g ∧ W.heap[g]? = some (.cells x.1.cells.toArray 38))
    (fun x a' => blk_own1 act (fun x => x.1.cells.toArray) 38 x a')
    ?assign ?body ?done ?stop
  case assign =>
    rintro l0 pre x W K ⟨hs, hB⟩ hK
    have hsz := hB.size
    have hxi := sp_info x.2
    have hsz2 : sp0.cells.toArray.size = x.1.cells.toArray.size := by rw [List.size_toArray, List.size_toArray, x.2.len, sp0_ok.len]
    obtain ⟨V, hV⟩ : ∃ V, World.setRow (W.alloc (.cells sp0.cells.toArray 38)) W.heap.size x.1.cells.toArray = V := ⟨_, rfl⟩
    have hbV : But W1.heap.size (fun _ => False) W V := by rw [← hV]; exact ⟨rfl, rfl, rfl, by simp, fun k hk _ => (setRow_other _ _ _ _ (by omega)).trans (Below.heap_alloc _ _ _ (by omega))⟩
    have hkV : KeepsOthers W V := by rw [← hV]; exact (KeepsOthers.alloc W _).trans (keeps_setRow (heap_alloc_new _ _) _)
    have hgV : V.heap[W.heap.size]? = some (.cells x.1.cells.toArray 38) := by rw [← hV]; exact setRow_heap _ _ _ _ _ _ (heap_alloc_new _ _)
    have hga : (W.alloc (.cells sp0.cells.toArray 38)).heap[W.heap.size]? = some (.cells sp0.cells.toArray 38) := heap_alloc_new _ _
    have hst : ∀ (ρ : Operand → Value) (o : Oper), o.op = .store 38 (.tmp 5) (.tmp 16) → ρ (.tmp 5) = .pointer (some ⟨W.heap.size, 0, none⟩) → ρ (.tmp 16) = .agg x.1.cells.toArray → (execOp ρ o).run Try.prog (W.alloc (.cells sp0.cells.toArray 38)) = .ok .skip V := fun ρ o ho h1 h2 => by
      rw [← hV]
      exact exec_store_row ho h1 h2 hga hxi hsz2 (all_oneCell_toArray (one_sp _))
    simp only [spcs, spv, fold_one, List.setIfInBounds_toArray, List.set_cons_succ, List.set_cons_zero]
    gi_wp2_with (first
      | (refine wpListIn_val rfl (fun c e => by cases e) rfl (exec_new spZ rfl _) ?_)
      | (refine wpListIn_skip rfl (fun c e => by cases e) rfl (hst _ _ rfl rfl rfl) ?_)
      | fail)
    exact hK _ _ (hkV.from _) (Hold.of_but hbV (fun k hk => ⟨hXW k hk, id⟩)) ⟨(show BestAt _ _ _ from (hbV.block _ (by omega) id).trans hs), hB.trans (hbV.widen (fun k e => e.elim))⟩ ⟨W.heap.size, rfl, by omega, hgV⟩
  case stop => exact fun D c pre W _ _ h _ => h.elim
  case body =>
    rintro l0 pre x a' W hl0 - ⟨bS, hB⟩ ⟨g, rfl, hg, bx⟩ hlt
    have hxi := sp_info x.2
    have hxl := sp_len x.2
    have hsz := hB.size
    have hbx : W.rangeAt g 0 x.1.cells := fun j u hj => by rw [Nat.zero_add]; exact blk_cell bx (by simpa using hj)
    have hbo : (bestL (pre.map Subtype.val)).Ok := bestL_ok fun y hy => by
      obtain ⟨z, _, rfl⟩ := List.mem_map.1 hy
      exact z.2
    have HN := Lib.hid (show bestL ((pre ++ [x]).map Subtype.val) = best1 (bestL (pre.map Subtype.val)) x.1 by rw [List.map_append]; exact bestL_snoc _ _)
    unfold BestAt at bS
    obtain ⟨bo, hbo'⟩ : ∃ bo, bestL (pre.map Subtype.val) = bo := ⟨_, rfl⟩
    rw [hbo'] at bS hbo HN
    clear hbo'
    have HZ := Lib.hid hzW1
    clear hzW1
    have hsz2 : bo.cells.toArray.size = x.1.cells.toArray.size := by rw [List.size_toArray, List.size_toArray, x.2.len, hbo.len]
    have q0 := blk_cell bx (sp_gen x.1)
    have q1 := blk_cell bS (sp_gen bo)
    obtain ⟨V, hV⟩ : ∃ V, World.setRow W (w.heap.size + 1) x.1.cells.toArray = V := ⟨_, rfl⟩
    have hbV : But W1.heap.size (· = w.heap.size + 1) W V := by rw [← hV]; exact but_setRow (X := (· = w.heap.size + 1)) (But.refl _ _ _) rfl _
    have hkV : KeepsOthers W V := by rw [← hV]; exact keeps_setRow bS _
    have hgV : V.heap[w.heap.size + 1]? = some (.cells x.1.cells.toArray 38) := by rw [← hV]; exact setRow_heap _ _ _ _ _ _ bS
    simp only [act]
    by_cases hgt : bo.gen < x.1.gen
    · have g1 : (bo.gen : Int) < (x.1.gen : Int) := by omega
      have HG := Lib.hid hgt
      clear hgt
      gi_wp2_with (first
        | (refine wpListIn_val rfl (fun c e => by cases e) rfl (exec_load_row (x := .tmp 5) rfl rfl hbx Try.underlying38 rfl hxl) ?_)
        | (refine wpListIn_skip rfl (fun c e => by cases e) rfl (exec_store_row (x := .tmp 4) (y := .tmp 22) rfl rfl rfl bS hxi hsz2 (all_oneCell_toArray (one_sp _))) ?_)
        | fail)
      try rw [hV]
      exact ⟨hkV.from _, Hold.of_but hbV (fun k hk => ⟨hXW k hk, hXs k hk⟩), by unfold BestAt; rw [HN.out]; unfold best1; rw [if_pos HG.out]; exact hgV, hB.trans hbV⟩
    · have g1 : ¬ (bo.gen : Int) < (x.1.gen : Int) := by omega
      have HG := Lib.hid hgt
      clear hgt
      gi_wp2
      exact ⟨KeepsFrom.refl _ _, Hold.refl _ _, by unfold BestAt; rw [HN.out]; unfold best1; rw [if_neg HG.out]; exact bS, hB⟩
  case done =>
    rintro D ys W hD hys ⟨b4, hB⟩ hK
    unfold BestAt at b4
    rw [hys] at b4
    have hbo : (bestL (d.seq 2)).Ok := by
      rw [← hys]
      refine bestL_ok fun y hy => ?_
      obtain ⟨z, _, rfl⟩ := List.mem_map.1 hy
      exact z.2
    have HN0 := HN.out
    have HZ0 := Lib.hid (best_zero (l := d.seq 2))
    obtain ⟨bo, hbo'⟩ : ∃ bo, bestL (d.seq 2) = bo := ⟨_, rfl⟩
    rw [hbo'] at b4 hbo HN0 HZ0
    have HM := Lib.hid HN0
    have b2 := hB.blk (by omega) (by omega) bb2
    have hBW' : Below w.heap.size w W := hB1.trans (hB.below (by omega) (fun k e => by omega))
    have hb4 : W.rangeAt (w.heap.size + 1) 0 bo.cells := fun j u hj => by rw [Nat.zero_add]; exact blk_cell b4 (by simpa using hj)
    have q0 := blk_cell b4 (sp_gen bo)
    have hin : (Try.prog.info? 38).map (·.size) = some sp0.cells.toArray.size := sp_info sp0_ok
    have hbi := sp_info hbo
    have hbl := sp_len hbo
    have d1 : w.heap.size ≠ D := by omega
    clear HN0 hbo' HN
    by_cases hz : bo.gen = 0
    · obtain rfl : bo = sp0 := HZ0.out hz
      obtain ⟨V, hV⟩ : ∃ V, World.setRow W w.heap.size sp0.cells.toArray = V := ⟨_, rfl⟩
      have hBV : Below w.heap.size w V := by rw [← hV]; exact bSetRow hBW' (Nat.le_refl _) _
      have x4 : V.heap[w.heap.size]? = some (.cells sp0.cells.toArray 38) := by rw [← hV]; exact setRow_heap _ _ _ _ _ _ b2
      have hKV : V.heap[D]? = some (.deferred (some [])) := by rw [← hV]; exact (setRow_other _ _ _ _ (by omega)).trans hK
      clear hK hz
      have q1 : W.cell? ⟨w.heap.size + 1, 0, none⟩ = some (.int .u32 0) := q0
      clear q0
      gi_wp2_with (first
        | (refine wpListIn_val rfl (fun c e => by cases e) rfl (exec_built (t := 38) (parts := #[]) rfl (cs := sp0.cells.toArray) (by simp only [List.map_toArray, List.map_nil]; exact built_sp0) _) ?_)
        | (refine wpListIn_skip rfl (fun c e => by cases e) rfl (exec_store_row (x := .tmp 2) (y := .tmp 26) rfl rfl rfl b2 hin rfl (all_oneCell_toArray (one_sp _))) ?_)
        | fail)
      try rw [hV]
      refine ⟨by simp, .inl ⟨_, _, rfl, run_takeDeferred hKV, ?_⟩⟩
      have hBp := hBV.trans (belowK_b (w := w) (Nat.le_refl _) V D _ (.deferred none) (by omega) hKV rfl rfl)
      have z0 := blk_put (o' := .deferred none) x4 d1
      have hld := run_loadVar_row (P := Try.prog) _ _ _ 38 _ _ _ z0 Try.underlying38 rfl hin
      exact ⟨_, (by simp [results, Try.results26, Act.put, asAddr, Result.andThen, hld]; try rfl), Ret.mk (by rw [HM.out.1, HM.out.2]; rfl) hBp⟩
    · obtain ⟨V, hV⟩ : ∃ V, World.setRow W w.heap.size bo.cells.toArray = V := ⟨_, rfl⟩
      have hBV : Below w.heap.size w V := by rw [← hV]; exact bSetRow hBW' (Nat.le_refl _) _
      have x4 : V.heap[w.heap.size]? = some (.cells bo.cells.toArray 38) := by rw [← hV]; exact setRow_heap _ _ _ _ _ _ b2
      have hKV : V.heap[D]? = some (.deferred (some [])) := by rw [← hV]; exact (setRow_other _ _ _ _ (by omega)).trans hK
      have g1 : ((bo.gen : Int) == 0) = false := by simp; omega
      have g2 : decide ((bo.gen : Int) = 0) = false := by simp; omega
      have HE : Hid (d.newestE = 0) := Lib.hid (by rw [HM.out.2, if_neg hz])
      have hsz2 : sp0.cells.toArray.size = bo.cells.toArray.size := by rw [List.size_toArray, List.size_toArray, hbo.len, sp0_ok.len]
      clear hK hz
      gi_wp2_with (first
        | (refine wpListIn_val rfl (fun c e => by cases e) rfl (exec_load_row (x := .tmp 4) rfl rfl hb4 Try.underlying38 rfl hbl) ?_)
        | (refine wpListIn_skip rfl (fun c e => by cases e) rfl (exec_store_row (x := .tmp 2) (y := .tmp 27) rfl rfl rfl b2 hbi hsz2 (all_oneCell_toArray (one_sp _))) ?_)
        | fail)
      try rw [hV]
      refine ⟨by simp, .inl ⟨_, _, rfl, run_takeDeferred hKV, ?_⟩⟩
      have hBp := hBV.trans (belowK_b (w := w) (Nat.le_refl _) V D _ (.deferred none) (by omega) hKV rfl rfl)
      have z0 := blk_put (o' := .deferred none) x4 d1
      have hld := run_loadVar_row (P := Try.prog) _ _ _ 38 _ _ _ z0 Try.underlying38 rfl hbi
      exact ⟨_, (by simp [results, Try.results26, Act.put, asAddr, Result.andThen, hld]; try rfl), Ret.mk (by rw [HM.out.1, HE.out]) hBp⟩

theorem newest_any {w : World} {base p B : Nat} {v : Value} {d : DS} (h : Dk w base p B v d) (hlo : d.lo.length < 1000000) :
    Calls Try.prog 26 #[dp p] w (Ret w (.tuple #[spv d.newest, .int .i64 d.newestE])) := by
  cases hdn : d.down
  · exact newest_up h hlo hdn
  · have e1 : d.newest = sp0 := by unfold DS.newest; rw [hdn]; rfl
    have e2 : d.newestE = 12 := by unfold DS.newestE; rw [hdn]; rfl
    rw [e1, e2]
    exact newest_down h hdn
end Go.Proofs.Ytnkdbkgihemjnaa
