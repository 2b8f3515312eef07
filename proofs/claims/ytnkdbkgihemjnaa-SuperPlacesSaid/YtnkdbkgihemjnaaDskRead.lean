/- The walk over disk.Read. -/
import Derived.Test.YtnkdbkgihemjnaaDskSeq
namespace Go.Proofs.Ytnkdbkgihemjnaa
set_option linter.unusedSimpArgs false
set_option linter.unusedVariables false
open Go.RowKit Go.Shelf
attribute [local go_sem] Oper.semAt_some

theorem built_blk0 : Try.prog.built 40 [] = some (bvs zblk).toArray := built_none blkZ (n := 128) (e := 5) (by kernel_rfl) (by kernel_rfl)
theorem zblk_len : zblk.length = 128 := by simp [zblk]
/-- what a range-over-func's body keeps of a new block -/
theorem blk_own {β : Type} {B s : Nat} {t : TypeId} (f : β → Array Value) (hs : s < B) : OwnFrom B (fun pre W => W.heap[s]? = some (.cells (f pre) t)) := fun pre W W' row h hg hr =>
  (hg.block s (Array.getElem?_eq_some_iff.1 h).1 (fun e => by have := (hr s e.symm).1; omega)).trans h

theorem blk_sizes {a b : Blk} (ha : a.length = 128) (hb : b.length = 128) : (bvs a).toArray.size = (bvs b).toArray.size := by rw [List.size_toArray, List.size_toArray, bvs_len, bvs_len, ha, hb]
theorem fold_one (t : Array Value) (p : Nat) (v : Value) : ((#[p] : Array Nat).zip #[v]).foldl (fun t (x : Nat × Value) => t.setIfInBounds x.1 x.2) t = t.setIfInBounds p v := by simp
theorem fold_two (t : Array Value) (p q : Nat) (v u : Value) : ((#[p, q] : Array Nat).zip #[v, u]).foldl (fun t (x : Nat × Value) => t.setIfInBounds x.1 x.2) t = (t.setIfInBounds p v).setIfInBounds q u := by simp
theorem blk_own1 {α : Type} {B : Nat} (act : α → Nat → Act) (cs : α → Array Value) (t : TypeId) (x : α) (a' : Act) : OwnFrom B (fun (_ : Unit) W => ∃ g, a' = act x g ∧ B ≤ g ∧ W.heap[g]? = some (.cells (cs x) t)) := by
  rintro _ W W' row ⟨g, e, hg, hb⟩ hgr hr
  refine ⟨g, e, hg, (hgr.block g (Array.getElem?_eq_some_iff.1 hb).1 (fun e' => ?_)).trans hb⟩
  obtain ⟨_, o, ho, hc⟩ := hr g e'.symm
  rw [hb] at ho; cases ho; cases hc
theorem keeps_setRow {W : World} {g : Nat} {cs : Array Value} {t : TypeId} (hg : W.heap[g]? = some (.cells cs t)) (c : Array Value) : KeepsOthers W (W.setRow g c) :=
  ⟨by rw [setRow_size]; exact Nat.le_refl _, fun k o hk ho => by
    by_cases e : k = g
    · subst e; rw [hg] at hk; cases hk; cases ho
    · rw [setRow_other _ _ _ _ e]; exact hk⟩
theorem but_setRow {n : Nat} {X : Nat → Prop} {w W : World} (h : But n X w W) {g : Nat} (hg : X g) (c : Array Value) : But n X w (W.setRow g c) :=
  ⟨by rw [setRow_os]; exact h.os, by rw [setRow_tape]; exact h.tape, by rw [setRow_output]; exact h.output, by rw [setRow_size]; exact h.size, fun k hk hx => (setRow_other W g k c (fun e => hx (e ▸ hg))).trans (h.block k hk hx)⟩

set_option maxHeartbeats 4000000 in
set_option maxRecDepth 100000 in
theorem read_bad {w : World} {base p B : Nat} {v : Value} {s : DS} (h : Dk w base p B v s) (i : Int) (hb : s.inB i = false ∨ s.down = true) :
    Calls Try.prog 79 #[dp p, .int .i64 i] w (Ret w (.tuple #[bkv (s.read i), .int .i64 (s.readE i)])) := by
  unfold bkv
  obtain ⟨W, hW⟩ : ∃ W, w.alloc (.cells (bvs zblk).toArray 40) = W := ⟨_, rfl⟩
  have hBW : Below w.heap.size w W := by rw [← hW]; exact (Below.refl _ _).alloc (Nat.le_refl _) _
  have bb : W.heap[w.heap.size]? = some (.cells (bvs zblk).toArray 40) := by rw [← hW]; exact heap_alloc_new _ _
  have hk := h.below hBW
  have hhas := dhas_any hk i
  have hrd : s.read i = zblk := by
    unfold DS.read
    rcases hb with e | e
    · rw [e]; rfl
    · rw [e]; split <;> simp
  rw [hrd]
  obtain ⟨hb0, c0, c1, c2, c3, c4, fr⟩ := hk.hds
  have hX2 := setRow_heap W w.heap.size (bvs zblk).toArray (bvs zblk).toArray 40 _ bb
  have hBX := bSetRow hBW (Nat.le_refl _) (bvs zblk).toArray
  have hld := run_loadVar_row (P := Try.prog) (W.setRow w.heap.size (bvs zblk).toArray) _ _ 40 _ _ _ hX2 Try.underlying40 rfl (bk_info zblk_len)
  have HX := Lib.hid hBX
  clear hb0 c0 c1 c2 c3 hk hX2 hBX hrd
  cases hin : s.inB i
  · have hre : Hid (s.readE i = 1) := Lib.hid (by simp [DS.readE, hin])
    rw [hin] at hhas
    unfold dp at *
    go_enter Try.func79, Try.ntmps79
    go_wp2_with (first | (refine wpList_new rfl blkZ rfl ?_) | fail)
    refine hhas.mono ?_
    rintro e w' ⟨rfl, rfl⟩
    go_wp2_with (first
      | (refine wpList_built rfl 40 #[] rfl (cs := (bvs zblk).toArray) (by simp only [List.map_toArray, List.map_nil]; exact built_blk0) ?_)
      | (refine wpList_store_row rfl 40 (.tmp 4) (.tmp 13) rfl _ (bvs zblk).toArray rfl rfl _ (bvs zblk).toArray bb (bk_info zblk_len) rfl (all_oneCell_toArray (oneCell_bvs _)) ?_)
      | fail)
    refine bodyPost_ret (by simp [results, Try.results79, Act.put, asAddr, Result.andThen, hld]; try rfl) rfl ?_
    exact Ret.mk (by rw [hre.out]) HX.out
  · have hdn : s.down = true := by
      rcases hb with e | e
      · rw [hin] at e; cases e
      · exact e
    have hre : Hid (s.readE i = 12) := Lib.hid (by simp [DS.readE, hin, hdn])
    rw [hin] at hhas
    rw [hdn] at c4
    unfold dp at *
    go_enter Try.func79, Try.ntmps79
    go_wp2_with (first | (refine wpList_new rfl blkZ rfl ?_) | fail)
    refine hhas.mono ?_
    rintro e w' ⟨rfl, rfl⟩
    go_wp2_with (first
      | (refine wpList_built rfl 40 #[] rfl (cs := (bvs zblk).toArray) (by simp only [List.map_toArray, List.map_nil]; exact built_blk0) ?_)
      | (refine wpList_store_row rfl 40 (.tmp 4) (.tmp 19) rfl _ (bvs zblk).toArray rfl rfl _ (bvs zblk).toArray bb (bk_info zblk_len) rfl (all_oneCell_toArray (oneCell_bvs _)) ?_)
      | fail)
    refine bodyPost_ret (by simp [results, Try.results79, Act.put, asAddr, Result.andThen, hld]; try rfl) rfl ?_
    exact Ret.mk (by rw [hre.out]) HX.out

set_option maxHeartbeats 4000000 in
set_option maxRecDepth 100000 in
theorem read_ok {w : World} {base p B : Nat} {v : Value} {s : DS} (h : Dk w base p B v s) (hlo : s.lo.length < 1000000) (i : Nat) (hi : i < s.bl.length) (hdn : s.down = false) :
    Calls Try.prog 79 #[dp p, .int .i64 i] w (Ret w (.tuple #[bkv (lastOf' s.lo i (s.blk i)), .int .i64 0])) := by
  unfold bkv
  obtain ⟨W, hW⟩ : ∃ W, w.alloc (.cells (bvs zblk).toArray 40) = W := ⟨_, rfl⟩
  have hBW : Below w.heap.size w W := by rw [← hW]; exact (Below.refl _ _).alloc (Nat.le_refl _) _
  have hzW : W.heap.size = w.heap.size + 1 := by rw [← hW]; simp
  have bb : W.heap[w.heap.size]? = some (.cells (bvs zblk).toArray 40) := by rw [← hW]; exact heap_alloc_new _ _
  have hk := h.below hBW
  have hhas := dhas_any hk i
  rw [DS.inB_iff.2 ⟨by omega, by omega⟩] at hhas
  obtain ⟨hb0, c0, c1, c2, c3, c4, fr⟩ := hk.hds
  rw [hdn] at c4
  have hrow := hk.blkAt hi
  have hbl := h.ok.blk i
  have hlst : (lastOf' s.lo i (s.blk i)).length = 128 := lastOf_len (fun x hx => (h.ok.lo x hx).2) hbl
  have HL := Lib.hid (lastIn_of s.lo i (s.blk i))
  generalize lastOf' s.lo i (s.blk i) = R at *
  have HB := Lib.hid hbl
  generalize hb' : s.blk i = b at *
  clear hb'
  obtain ⟨Y, hY⟩ : ∃ Y, World.setRow (W.alloc (.cells (bvs zblk).toArray 40)) W.heap.size (bvs b).toArray = Y := ⟨_, rfl⟩
  have hBY : Below W.heap.size W Y := by rw [← hY]; exact bSetRow ((Below.refl _ _).alloc (Nat.le_refl _) _) (Nat.le_refl _) _
  have yb : Y.heap[W.heap.size]? = some (.cells (bvs b).toArray 40) := by rw [← hY]; exact setRow_heap _ _ _ _ _ _ (heap_alloc_new _ _)
  rw [hzW] at hY yb
  have hof := fun W => of_any p i W
  have g1 : (i : Int) < s.bl.length := by omega
  have HK := Lib.hid (hk.below hBY)
  have hbsz : (Try.prog.info? 40).map (·.size) = some (bvs b).toArray.size := bk_info hbl
  have HOWN := Lib.hid (fun k hk => (h.own_ge k hk).2)
  have HOK := Lib.hid h.ok.lo
  clear hk hb0 c1 c2 c3 h
  unfold dp at *
  refine (callsIn_wide (n := 11)).1 ?_
  refine callsIn_of_wp_marks Try.func79 rfl trivial ?_ rfl
  simp only [Try.ntmps79, List.size_toArray, List.length_cons, List.length_nil, Nat.reduceAdd, Nat.reduceSub, Array.replicate_succ, Array.replicate_zero, List.push_toArray, List.append_toArray, List.nil_append, List.cons_append]
  gi_wp2_with (first | (refine wpListIn_val rfl (fun c e => by cases e) rfl (exec_new blkZ rfl _) ?_) | fail)
  refine ⟨trivial, ?_⟩
  refine (callsIn_wide.2 hhas).mono ?_
  rintro e w' ⟨rfl, rfl⟩
  gi_wp2_with (first
    | (refine wpListIn_val rfl (fun c e => by cases e) rfl (exec_new blkZ rfl _) ?_)
    | (refine wpListIn_val rfl (fun c e => by cases e) rfl (exec_load_row (x := .tmp 25) rfl rfl hrow Try.underlying40 rfl (bk_len hbl)) ?_)
    | (refine wpListIn_skip rfl (fun c e => by cases e) rfl (exec_store_row (x := .tmp 6) (y := .tmp 26) rfl rfl rfl (heap_alloc_new _ _) hbsz (blk_sizes zblk_len hbl) (all_oneCell_toArray (oneCell_bvs _))) ?_)
    | fail)
  refine ⟨trivial, ?_⟩
  refine (callsIn_wide.2 (hof _)).mono ?_
  rintro e w' ⟨rfl, rfl⟩
  obtain ⟨W1, hW1⟩ : ∃ W1, (Y.alloc (.cells #[.pointer (some ⟨p, 0, none⟩)] 25)).alloc (.cells #[.int .i64 (i : Nat)] 3) = W1 := ⟨_, rfl⟩
  have hzY : Y.heap.size = w.heap.size + 1 + 1 := by rw [← hY]; simp [hzW]
  have yb1 : W1.heap[w.heap.size + 1]? = some (.cells (bvs b).toArray 40) := by rw [← hW1]; exact (Below.heap_alloc _ _ _ (by simp [hzY])).trans ((Below.heap_alloc _ _ _ (by omega)).trans yb)
  have hD1 : W1.heap[w.heap.size + 1 + 1]? = some (.cells #[dp p] 25) := by rw [← hW1, ← hzY]; exact (Below.heap_alloc _ _ _ (by simp)).trans (heap_alloc_new _ _)
  have hI1 : W1.heap[w.heap.size + 1 + 1 + 1]? = some (.cells #[.int .i64 (i : Nat)] 3) := by rw [← hW1, ← hzY]; exact heap_alloc_two _ _ _
  have hBY1 : Below Y.heap.size Y W1 := by rw [← hW1]; exact ((Below.refl _ _).alloc (Nat.le_refl _) _).alloc (by simp) _
  have hB1 : Below w.heap.size w W1 := hBW.trans ((hBY.mono (by omega)).trans (hBY1.mono (by omega)))
  have bb1 : W1.heap[w.heap.size]? = some (.cells (bvs zblk).toArray 40) := bBlk hBY1 (by omega) (bBlk hBY (by omega) bb)
  have hz1 : W1.heap.size = w.heap.size + 4 := by rw [← hW1]; simp [hzY]
  have hk1 := HK.out.below hBY1
  have hown := hk1.own_ge
  have hkl := HK.out.lt
  have HOW : Hid (∀ k, Own p B v k → k < w.heap.size) := Lib.hid fun k hk => by
    have h1 := hk1.own_ge k hk
    exact HOWN.out k hk
  gi_wp2
  let X : Nat → Prop := fun k => k = w.heap.size + 1 + 1 ∨ k = w.heap.size + 1 + 1 + 1 ∨ Own p B v k
  have hXW : ∀ k, X k → k < W1.heap.size := fun k hk => by
    rcases hk with e | e | e
    · omega
    · omega
    · have := HOW.out k e; omega
  have hXs : ∀ k, X k → k ≠ w.heap.size + 1 := fun k hk => by
    rcases hk with e | e | e
    · omega
    · omega
    · have := HOW.out k e; omega
  let act : {x // x ∈ s.lo} → Nat → Act := fun x g => ⟨#[.pointer (some ⟨p, 0, none⟩), .int .i64 (i : Nat), undef, undef, .pointer (some ⟨w.heap.size, 0, none⟩), .int .i64 0, .pointer (some ⟨w.heap.size + 1, 0, none⟩), .pointer (some ⟨g, 0, none⟩), .bool false, .pointer (some ⟨p, 0, none⟩), .int .i64 (i : Nat), .bool true, .bool false, undef, .bool false, .pointer (some ⟨p, 0, none⟩), .pointer (some ⟨p, 0, none⟩), .pointer (some ⟨p, 4, none⟩), .bool false, undef, .pointer (some ⟨p, 0, none⟩), .pointer (some ⟨p, 0, none⟩), .pointer (some ⟨p, 0, none⟩), .slice (some ⟨B, 0, none⟩) s.bl.length s.bl.length, .int .i64 (i : Nat), .pointer (some ⟨B, i * 128, none⟩), .agg (bvs b).toArray, .pointer (some ⟨p, 0, none⟩), .int .i64 (i : Nat), .func (.func 98) #[] #[.pointer (some ⟨w.heap.size + 1 + 1, 0, none⟩), .pointer (some ⟨w.heap.size + 1 + 1 + 1, 0, none⟩)], .agg (bvs x.1.2).toArray, undef, undef], []⟩
  refine wpIn_rangeFunc_ownH rfl (by omega) (gf := 98) (lb := #[.pointer (some ⟨w.heap.size + 1 + 1, 0, none⟩), .pointer (some ⟨w.heap.size + 1 + 1 + 1, 0, none⟩)]) rfl trivial (enters_of Try.func98 (by kernel_rfl) rfl)
    (of_stops (w.heap.size + 1 + 1) (w.heap.size + 1 + 1 + 1) i X (.inl rfl) (.inr (.inl rfl)) (fun k hk => .inr (.inr hk)) hlo W1 hXW hD1 hI1 hk1)
    (fun h k => h.trans k) (fun W l o o' hl h a c => Hold.obj (w := W1) hXW W l o o' hl h a c) (Below.refl _ _) (fun _ => rfl)
    (fun (pre : List {x // x ∈ s.lo}) W => W.heap[w.heap.size + 1]? = some (.cells (bvs (lastIn b (pre.map Subtype.val))).toArray 40) ∧ But W1.heap.size (· = w.heap.size + 1) W1 W)
    (fun _ _ _ => False)
    ((blk_own (fun pre : List {x // x ∈ s.lo} => (bvs (lastIn b (pre.map Subtype.val))).toArray) (by omega)).and (But.own (a := W1) (n := W1.heap.size) (X := (· = w.heap.size + 1)) (Nat.le_refl _) (Nat.le_refl _)))
    (fun _ _ _ _ _ hs _ _ => hs)
    ⟨yb1, But.refl _ _ _⟩
    (fun (x : {x // x ∈ s.lo}) a' W => ∃ g, a' = act x g ∧ W1.heap.size ≤ g ∧ W.heap[g]? = some (.cells (bvs x.1.2).toArray 40))
    (fun x a' => blk_own1 act (fun x => (bvs x.1.2).toArray) 40 x a')
    ?assign ?body ?done ?stop
  case assign =>
    rintro l0 pre x W K ⟨hs, hB⟩ hK
    have hsz := hB.size
    have hx2 := (HOK.out x.1 x.2).2
    obtain ⟨V, hV⟩ : ∃ V, World.setRow (W.alloc (.cells (bvs zblk).toArray 40)) W.heap.size (bvs x.1.2).toArray = V := ⟨_, rfl⟩
    have hbV : But W1.heap.size (fun _ => False) W V := by rw [← hV]; exact ⟨rfl, rfl, rfl, by simp, fun k hk _ => (setRow_other _ _ _ _ (by omega)).trans (Below.heap_alloc _ _ _ (by omega))⟩
    have hkV : KeepsOthers W V := by rw [← hV]; exact (KeepsOthers.alloc W _).trans (keeps_setRow (heap_alloc_new _ _) _)
    have hgV : V.heap[W.heap.size]? = some (.cells (bvs x.1.2).toArray 40) := by rw [← hV]; exact setRow_heap _ _ _ _ _ _ (heap_alloc_new _ _)
    have hga : (W.alloc (.cells (bvs zblk).toArray 40)).heap[W.heap.size]? = some (.cells (bvs zblk).toArray 40) := heap_alloc_new _ _
    have hst : ∀ (ρ : Operand → Value) (o : Oper), o.op = .store 40 (.tmp 7) (.tmp 30) → ρ (.tmp 7) = .pointer (some ⟨W.heap.size, 0, none⟩) → ρ (.tmp 30) = .agg (bvs x.1.2).toArray → (execOp ρ o).run Try.prog (W.alloc (.cells (bvs zblk).toArray 40)) = .ok .skip V := fun ρ o ho h1 h2 => by
      rw [← hV]
      exact exec_store_row ho h1 h2 hga (bk_info hx2) (blk_sizes zblk_len hx2) (all_oneCell_toArray (oneCell_bvs _))
    simp only [bkcs, fold_one, List.setIfInBounds_toArray, List.set_cons_succ, List.set_cons_zero]
    gi_wp2_with (first
      | (refine wpListIn_val rfl (fun c e => by cases e) rfl (exec_new blkZ rfl _) ?_)
      | (refine wpListIn_skip rfl (fun c e => by cases e) rfl (hst _ _ rfl rfl rfl) ?_)
      | fail)
    exact hK _ _ (hkV.from _) (Hold.of_but hbV (fun k hk => ⟨hXW k hk, id⟩)) ⟨(hbV.block _ (by omega) id).trans hs, hB.trans (hbV.widen (fun k e => e.elim))⟩ ⟨W.heap.size, rfl, by omega, hgV⟩
  case stop => exact fun D c pre W _ _ h _ => h.elim
  case body =>
    rintro l0 pre x a' W hl0 - ⟨bS, hB⟩ ⟨g, rfl, hg, bx⟩ hlt
    have hx2 := (HOK.out x.1 x.2).2
    have hsz := hB.size
    have hbx : W.rangeAt g 0 (bvs x.1.2) := fun j u hj => by rw [Nat.zero_add]; exact blk_cell bx (by simpa using hj)
    have hpl : (lastIn b (pre.map Subtype.val)).length = 128 := lastIn_len HB.out (fun y hy => by
      obtain ⟨z, _, rfl⟩ := List.mem_map.1 hy
      exact (HOK.out z.1 z.2).2)
    have hnx := lastIn_snoc b (pre.map Subtype.val) x.1
    have HN := Lib.hid (show lastIn b ((pre ++ [x]).map Subtype.val) = x.1.2 by rw [List.map_append]; exact hnx)
    clear hnx
    generalize lastIn b (pre.map Subtype.val) = bo at *
    obtain ⟨V, hV⟩ : ∃ V, World.setRow W (w.heap.size + 1) (bvs x.1.2).toArray = V := ⟨_, rfl⟩
    have hbV : But W1.heap.size (· = w.heap.size + 1) W V := by rw [← hV]; exact but_setRow (X := (· = w.heap.size + 1)) (But.refl _ _ _) rfl _
    have hkV : KeepsOthers W V := by rw [← hV]; exact keeps_setRow bS _
    have hgV : V.heap[w.heap.size + 1]? = some (.cells (bvs x.1.2).toArray 40) := by rw [← hV]; exact setRow_heap _ _ _ _ _ _ bS
    simp only [act]
    gi_wp2_with (first
      | (refine wpListIn_val rfl (fun c e => by cases e) rfl (exec_load_row (x := .tmp 7) rfl rfl hbx Try.underlying40 rfl (bk_len hx2)) ?_)
      | (refine wpListIn_skip rfl (fun c e => by cases e) rfl (exec_store_row (x := .tmp 6) (y := .tmp 31) rfl rfl rfl bS (bk_info hx2) (blk_sizes hpl hx2) (all_oneCell_toArray (oneCell_bvs _))) ?_)
      | fail)
    try rw [hV]
    exact ⟨hkV.from _, Hold.of_but hbV (fun k hk => ⟨hXW k hk, hXs k hk⟩), by rw [HN.out]; exact hgV, hB.trans hbV⟩
  case done =>
    rintro D ys W hD hys ⟨b6, hB⟩ hK
    rw [hys, HL.out] at b6
    have b4 := hB.blk (by omega) (by omega) bb1
    have hBW' : Below w.heap.size w W := hB1.trans (hB.below (by omega) (fun k e => by omega))
    have hb6 : W.rangeAt (w.heap.size + 1) 0 (bvs R) := fun j u hj => by rw [Nat.zero_add]; exact blk_cell b6 (by simpa using hj)
    obtain ⟨V, hV⟩ : ∃ V, World.setRow W w.heap.size (bvs R).toArray = V := ⟨_, rfl⟩
    have hBV : Below w.heap.size w V := by rw [← hV]; exact bSetRow hBW' (Nat.le_refl _) _
    have x4 : V.heap[w.heap.size]? = some (.cells (bvs R).toArray 40) := by rw [← hV]; exact setRow_heap _ _ _ _ _ _ b4
    have d1 : w.heap.size ≠ D := by omega
    have hKV : V.heap[D]? = some (.deferred (some [])) := by rw [← hV]; exact (setRow_other _ _ _ _ (by omega)).trans hK
    clear hK
    gi_wp2_with (first
      | (refine wpListIn_val rfl (fun c e => by cases e) rfl (exec_load_row (x := .tmp 6) rfl rfl hb6 Try.underlying40 rfl (bk_len hlst)) ?_)
      | (refine wpListIn_skip rfl (fun c e => by cases e) rfl (exec_store_row (x := .tmp 4) (y := .tmp 32) rfl rfl rfl b4 (bk_info hlst) (blk_sizes zblk_len hlst) (all_oneCell_toArray (oneCell_bvs _))) ?_)
      | fail)
    try rw [hV]
    refine ⟨by simp, .inl ⟨_, _, rfl, run_takeDeferred hKV, ?_⟩⟩
    have hBp := hBV.trans (belowK_b (w := w) (Nat.le_refl _) V D _ (.deferred none) (by omega) hKV rfl rfl)
    have z0 := blk_put (o' := .deferred none) x4 d1
    have hld := run_loadVar_row (P := Try.prog) _ _ _ 40 _ _ _ z0 Try.underlying40 rfl (bk_info hlst)
    exact ⟨_, (by simp [results, Try.results79, Act.put, asAddr, Result.andThen, hld]; try rfl), Ret.mk rfl hBp⟩

theorem read_any {w : World} {base p B : Nat} {v : Value} {s : DS} (h : Dk w base p B v s) (hlo : s.lo.length < 1000000) (i : Int) :
    Calls Try.prog 79 #[dp p, .int .i64 i] w (Ret w (.tuple #[bkv (s.read i), .int .i64 (s.readE i)])) := by
  cases hin : s.inB i
  · exact read_bad h i (.inl hin)
  · cases hdn : s.down
    · have hi := DS.inB_iff.1 hin
      obtain ⟨k, rfl⟩ : ∃ k : Nat, i = (k : Int) := ⟨i.toNat, by omega⟩
      have := read_ok h hlo k (by omega) hdn
      have e1 : s.read k = lastOf' s.lo k (s.blk k) := by simp [DS.read, hin, hdn]
      have e2 : s.readE k = 0 := by simp [DS.readE, hin, hdn]
      rw [e1, e2]; exact this
    · exact read_bad h i (.inr hdn)
end Go.Proofs.Ytnkdbkgihemjnaa
