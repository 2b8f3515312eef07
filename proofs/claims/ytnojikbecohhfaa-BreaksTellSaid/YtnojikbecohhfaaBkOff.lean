/- The walk over (*best).offer. -/
import Derived.Test.YtnojikbecohhfaaBkWay
import Derived.Test.YtnojikbecohhfaaAuto
namespace Go.Proofs.Ytnojikbecohhfaa
set_option linter.unusedSimpArgs false
set_option linter.unusedVariables false
open Go.RowKit Go.Sort

set_option maxHeartbeats 4000000 in
set_option maxRecDepth 100000 in
theorem offer_new {F o n m c c' : Nat} {A A' : Option Addr} {cs : Array Value} {T : TypeId} {t ov t' o' : Int} (w : World) (hF : w.heap[F]? = some (.cells cs T)) (ho : o + 4 ≤ cs.size) (h3 : cs[o + 3]? = some (.bool false)) :
    Calls Try.prog 42 #[.pointer (some ⟨F, o, none⟩), wyv A' m c' t' o', .func (.func 43) #[] #[]] w fun e w' =>
      e = .returned (.tuple #[]) ∧ w'.heap[F]? = some (.cells (setMany cs o [.slice A' m c', .int .i64 t', .int .i64 o', .bool true]) T) ∧ But w.heap.size (· = F) w w' := by
  unfold wyv
  have hFl := (Array.getElem?_eq_some_iff.1 hF).1
  go_enter Try.func42, Try.ntmps42
  go_upto_region 1 with (fail)
  obtain ⟨V, hV⟩ : ∃ q, w.alloc (.cells #[.slice A' m c', .int .i64 t', .int .i64 o'] 37) = q := ⟨_, rfl⟩
  have hB : Below w.heap.size w V := by rw [← hV]; exact (Below.refl _ _).alloc (Nat.le_refl _) _
  have v4 : V.heap[w.heap.size]? = some (.cells #[.slice A' m c', .int .i64 t', .int .i64 o'] 37) := by rw [← hV]; exact heap_alloc_new _ _
  rw [hV]
  clear hV
  have hFV := bBlk hB hFl hF
  have k3 : V.cell? ⟨F, o + 3, none⟩ = some (.bool false) := blk_cell hFV h3
  have hFl2 := (Array.getElem?_eq_some_iff.1 hFV).1
  let S : World → Prop := fun w' => w'.cell? ⟨F, o + 3, none⟩ = some (.bool false)
  have hS0 : S V.drew := k3
  refine wp_region_held (S := S) (by kernel_rfl) ?_
  change wpAnyH _ _ _ _ S _ _ _ V.drew
  change At 0 _
  iterate 14 (first | (apply tkA; (case hi => (simp only [List.getElem?_toArray, List.getElem?_cons_zero, List.getElem?_cons_succ]; rfl)); (case hw => rfl); (case hy => (intro w' hSw; (try simp only [S] at hSw); go_simp; (try with_reducible rfl))); (case hs => kernel_rfl); (case hf => kernel_rfl); (case hr => kernel_rfl); (case hQ => exact fun _ _ _ h => h); (case hS => assumption); (try simp only [Act.put, List.setIfInBounds_toArray, List.set_cons_zero, List.set_cons_succ, Nat.reduceAdd])) | (apply skA; (case hi => (simp only [List.getElem?_toArray, List.getElem?_cons_zero, List.getElem?_cons_succ]; rfl)); (case hw => rfl); (case hs => kernel_rfl); (case hf => kernel_rfl); (case hr => kernel_rfl); (case hQ => exact fun _ _ _ h => h); (case hS => assumption); (try simp only [Act.put, List.setIfInBounds_toArray, List.set_cons_zero, List.set_cons_succ, Nat.reduceAdd])))
  change wpAnyH _ _ _ _ _ _ _ _ _
  refine wpAnyH_done (by kernel_rfl) ?_ _
  have hB2 : Below w.heap.size w V.drew := hB.drew
  have hF2 : V.drew.heap[F]? = some (.cells cs T) := hFV
  have v42 : V.drew.heap[w.heap.size]? = some (.cells #[.slice A' m c', .int .i64 t', .int .i64 o'] 37) := v4
  generalize V.drew = U at *
  go_upto_region 2 with (fail)
  obtain ⟨cw, hcw⟩ : ∃ q : Array Value, #[.slice A' m c', .int .i64 t', .int .i64 o'] = q := ⟨_, rfl⟩
  rw [hcw] at v42
  rw [hcw]
  have hc3 : cw.size = 3 := by rw [← hcw]; rfl
  have hcl : cw.toList = [.slice A' m c', .int .i64 t', .int .i64 o'] := by rw [← hcw]
  have hc1 : cw.all (·.oneCell') = true := by rw [← hcw]; simp [Value.oneCell']
  have hw3 : (Try.prog.info? 37).map (·.size) = some cw.size := by rw [hc3]; kernel_rfl
  have hth : U.there F o cw.size := there_blk hF2 (by omega)
  obtain ⟨X, hX⟩ : ∃ q, U.setCells F o cw.toList = q := ⟨_, rfl⟩
  have hFX : X.heap[F]? = some (.cells (setMany cs o cw.toList) T) := by rw [← hX]; exact blk_sets _ o hF2
  have hBX : But w.heap.size (· = F) w X := by rw [← hX]; exact but_sets _ F o (but_of hB2) rfl
  have hsz : (setMany cs o cw.toList).size = cs.size := setMany_size _ _ _
  obtain ⟨v3, hv3⟩ : ∃ v, (setMany cs o cw.toList)[o + 3]? = some v := ⟨_, Array.getElem?_eq_getElem (by rw [hsz]; omega)⟩
  have k3 : X.cell? ⟨F, o + 3, none⟩ = some v3 := blk_cell hFX hv3
  have f3 := blk_frozen hFX (o + 3)
  have HC := Lib.hid (And.intro hcl (And.intro hFX (And.intro hBX hsz)))
  clear hv3 hsz hS0 hF hFV h3 hcw hc3 hcl hFX hBX
  go_wp2_with (first
    | (refine wpList_load_row rfl 37 (.tmp 4) rfl _ rfl _ cw (0, 0) _ v42 Try.underlying37 rfl hw3 ?_)
    | (refine wpList_store_mid rfl 37 (.tmp 24) (.tmp 22) rfl F o cw rfl rfl hth hw3 hc1 ?_; rw [hX])
    | fail)
  (try simp only [Exit.inBlock, Exit.then])
  refine bodyPost_end (results_none rfl _ _ _) rfl ?_
  refine ⟨rfl, ?_, HC.out.2.2.1.set (p := ⟨F, o + 3, none⟩) rfl _⟩
  have := blk_set HC.out.2.1 (o + 3) (.bool true)
  rw [HC.out.1] at this
  exact this
set_option maxHeartbeats 4000000 in
set_option maxRecDepth 100000 in
theorem offer_old {F o n m c c' : Nat} {A A' : Option Addr} {cs : Array Value} {T : TypeId} {x y : WY} {ov o' : Int} (w : World) (hF : w.heap[F]? = some (.cells cs T)) (ho : o + 4 ≤ cs.size)
    (h0 : cs[o]? = some (.slice A n c)) (h1 : cs[o + 1]? = some (.int .i64 x.total)) (h2 : cs[o + 2]? = some (.int .i64 ov)) (h3 : cs[o + 3]? = some (.bool true))
    (hx : IvAt w w.heap.size A n c x.ends) (hy : IvAt w w.heap.size A' m c' y.ends) (hn : n ≤ 1000000) (hm : m ≤ 1000000) :
    Calls Try.prog 42 #[.pointer (some ⟨F, o, none⟩), wyv A' m c' y.total o', .func (.func 43) #[] #[]] w fun e w' =>
      e = .returned (.tuple #[]) ∧ w'.heap[F]? = some (.cells (if bett y x then setMany cs o [.slice A' m c', .int .i64 y.total, .int .i64 o', .bool true] else cs) T) ∧ But w.heap.size (· = F) w w' := by
  have hbt := fun W (h : Below w.heap.size w W) => better_any (o := o') (o' := ov) W (hy.nxt h) (hx.nxt h) hm hn
  obtain ⟨t', ht'⟩ : ∃ t, y.total = t := ⟨_, rfl⟩
  obtain ⟨t, ht⟩ : ∃ t, x.total = t := ⟨_, rfl⟩
  obtain ⟨R, hR⟩ : ∃ R, bett y x = R := ⟨_, rfl⟩
  unfold wyv at hbt ⊢
  simp only [hR, ht', ht] at hbt
  rw [ht'] 
  rw [ht] at h1
  rw [hR]
  clear hx hy ht' ht hR
  have hFl := (Array.getElem?_eq_some_iff.1 hF).1
  go_enter Try.func42, Try.ntmps42
  go_upto_region 1 with (fail)
  obtain ⟨V, hV⟩ : ∃ q, w.alloc (.cells #[.slice A' m c', .int .i64 t', .int .i64 o'] 37) = q := ⟨_, rfl⟩
  have hB : Below w.heap.size w V := by rw [← hV]; exact (Below.refl _ _).alloc (Nat.le_refl _) _
  have v4 : V.heap[w.heap.size]? = some (.cells #[.slice A' m c', .int .i64 t', .int .i64 o'] 37) := by rw [← hV]; exact heap_alloc_new _ _
  rw [hV]
  clear hV
  have hFV := bBlk hB hFl hF
  have hFl2 := (Array.getElem?_eq_some_iff.1 hFV).1
  have l4 := (Array.getElem?_eq_some_iff.1 v4).1
  have hro : V.rangeAt F o [.slice A n c, .int .i64 t, .int .i64 ov] := fun j v hj => by
    match j, hj with
    | 0, hj => injection hj with hj; subst hj; exact blk_cell hFV h0
    | 1, hj => injection hj with hj; subst hj; exact blk_cell hFV h1
    | 2, hj => injection hj with hj; subst hj; exact blk_cell hFV h2
  have hr4 : V.rangeAt w.heap.size 0 [.slice A' m c', .int .i64 t', .int .i64 o'] := range_blk v4
  have k3 : V.cell? ⟨F, o + 3, none⟩ = some (.bool true) := blk_cell hFV h3
  have hwi : ∀ a b c : Value, (Try.prog.info? 37).map (·.size) = some [a, b, c].length := fun _ _ _ => by kernel_rfl
  let S : World → Prop := fun w' => Below V.heap.size V w'
  have hS0 : S V.drew := (Below.refl _ _).drew
  have r3 : ∀ w', S w' → w'.cell? ⟨F, o + 3, none⟩ = some (.bool true) := fun w' h => (Below.cell (show Below V.heap.size V w' from h) (p := ⟨F, o + 3, none⟩) hFl2).trans k3
  have ro : ∀ w', S w' → w'.rangeAt F o [.slice A n c, .int .i64 t, .int .i64 ov] := fun w' h => bRange h hFl2 hro
  have r4 : ∀ w', S w' → w'.rangeAt w.heap.size 0 [.slice A' m c', .int .i64 t', .int .i64 o'] := fun w' h => bRange h l4 hr4
  have hb0 := hbt V.drew hB.drew
  clear hbt k3 hro hr4
  refine wp_region_held (S := S) (by kernel_rfl) ?_
  change wpAnyH _ _ _ _ S _ _ _ V.drew
  change At 0 _
  iterate 7 (first | (apply tkA; (case hi => (simp only [List.getElem?_toArray, List.getElem?_cons_zero, List.getElem?_cons_succ]; rfl)); (case hw => rfl); (case hy => (intro w' hSw; have q := r3 w' hSw; (try simp only [S] at hSw); go_simp; (try with_reducible rfl))); (case hs => kernel_rfl); (case hf => kernel_rfl); (case hr => kernel_rfl); (case hQ => exact fun _ _ _ h => h); (case hS => assumption); (try simp only [Act.put, List.setIfInBounds_toArray, List.set_cons_zero, List.set_cons_succ, Nat.reduceAdd])) | (apply skA; (case hi => (simp only [List.getElem?_toArray, List.getElem?_cons_zero, List.getElem?_cons_succ]; rfl)); (case hw => rfl); (case hs => kernel_rfl); (case hf => kernel_rfl); (case hr => kernel_rfl); (case hQ => exact fun _ _ _ h => h); (case hS => assumption); (try simp only [Act.put, List.setIfInBounds_toArray, List.set_cons_zero, List.set_cons_succ, Nat.reduceAdd])))
  change wpAnyH _ _ _ _ _ _ _ _ _
  refine wpAnyH_take (i := 7) (oi := ?oi_2) (v := ?v_2) ?ho_2 ?h1_2 ?h2_2 ?h3_2 ?hq_2 (Or.inl ⟨?hw_2, ?hy_2⟩) ?hs_2 ?rest_2; (case h2_2 => kernel_rfl); (case h3_2 => kernel_rfl); (case ho_2 => (simp only [List.getElem?_toArray, List.getElem?_cons_zero, List.getElem?_cons_succ]; rfl)); (case h1_2 => kernel_rfl); (case hq_2 => exact fun _ _ _ h => h); (case hw_2 => rfl); (case hy_2 => (intro w' hSw; refine exec_load_row (x := .tmp 4) ?_ ?_ (r4 w' hSw) Try.underlying37 ?_ (hwi _ _ _) <;> rfl)); (case hs_2 => assumption); (try simp only [Act.put, List.setIfInBounds_toArray, List.set_cons_zero, List.set_cons_succ])
  change At 8 _
  iterate 3 (first | (apply tkA; (case hi => (simp only [List.getElem?_toArray, List.getElem?_cons_zero, List.getElem?_cons_succ]; rfl)); (case hw => rfl); (case hy => (intro w' hSw; (try simp only [S] at hSw); go_simp; (try with_reducible rfl))); (case hs => kernel_rfl); (case hf => kernel_rfl); (case hr => kernel_rfl); (case hQ => exact fun _ _ _ h => h); (case hS => assumption); (try simp only [Act.put, List.setIfInBounds_toArray, List.set_cons_zero, List.set_cons_succ, Nat.reduceAdd])) | (apply skA; (case hi => (simp only [List.getElem?_toArray, List.getElem?_cons_zero, List.getElem?_cons_succ]; rfl)); (case hw => rfl); (case hs => kernel_rfl); (case hf => kernel_rfl); (case hr => kernel_rfl); (case hQ => exact fun _ _ _ h => h); (case hS => assumption); (try simp only [Act.put, List.setIfInBounds_toArray, List.set_cons_zero, List.set_cons_succ, Nat.reduceAdd])))
  change wpAnyH _ _ _ _ _ _ _ _ _
  refine wpAnyH_take (i := 11) (oi := ?oi_3) (v := ?v_3) ?ho_3 ?h1_3 ?h2_3 ?h3_3 ?hq_3 (Or.inl ⟨?hw_3, ?hy_3⟩) ?hs_3 ?rest_3; (case h2_3 => kernel_rfl); (case h3_3 => kernel_rfl); (case ho_3 => (simp only [List.getElem?_toArray, List.getElem?_cons_zero, List.getElem?_cons_succ]; rfl)); (case h1_3 => kernel_rfl); (case hq_3 => exact fun _ _ _ h => h); (case hw_3 => rfl); (case hy_3 => (intro w' hSw; refine exec_load_row (x := .tmp 16) ?_ ?_ (ro w' hSw) Try.underlying37 ?_ (hwi _ _ _) <;> rfl)); (case hs_3 => assumption); (try simp only [Act.put, List.setIfInBounds_toArray, List.set_cons_zero, List.set_cons_succ])
  refine wpAnyH_ready (rs := [12]) (by kernel_rfl) (by simp) (AllReadyH.cons (o := ?oo12_4) ?hoo12_4 (fun K hK => ?steponly4) AllReadyH.nil); (case hoo12_4 => (simp only [List.getElem?_toArray, List.getElem?_cons_zero, List.getElem?_cons_succ]; rfl))
  go_simp
  refine Calls.mono hb0 ?_
  rintro e U ⟨rfl, hbU⟩
  have hS1 : S U := (show Below V.heap.size V V.drew from hS0).trans (hbU.mono (Nat.le_refl _))
  refine hK.out _ _ hS1 (fun _ => ?_)
  clear hK K hb0
  (try simp only [Act.put, List.setIfInBounds_toArray, List.set_cons_zero, List.set_cons_succ])
  refine wpAnyH_take (i := 13) (oi := ?oi_1) (v := ?v_1) ?ho_1 ?h1_1 ?h2_1 ?h3_1 ?hq_1 (Or.inl ⟨?hw_1, ?hy_1⟩) ?hs_1 ?rest_1; (case h2_1 => kernel_rfl); (case h3_1 => kernel_rfl); (case ho_1 => (simp only [List.getElem?_toArray, List.getElem?_cons_zero, List.getElem?_cons_succ]; rfl)); (case h1_1 => kernel_rfl); (case hq_1 => exact fun _ _ _ h => h); (case hw_1 => rfl); (case hy_1 => (intro w' hSw; (try simp only [S] at hSw); go_simp; (try with_reducible rfl))); (case hs_1 => assumption); (try simp only [Act.put, List.setIfInBounds_toArray, List.set_cons_zero, List.set_cons_succ])
  refine wpAnyH_done (by kernel_rfl) ?_ _
  have hB2 := bNext hB (show Below V.heap.size V U from hS1)
  have hF2 := bBlk (show Below V.heap.size V U from hS1) hFl2 hFV
  have v42 := bBlk (show Below V.heap.size V U from hS1) l4 v4
  clear hS1 hbU r3 ro r4 hB v4
  cases R
  · have HC := Lib.hid (And.intro hF2 hB2)
    clear hF2 hB2 v42 hF hFV h0 h1 h2 h3
    go_wp2_with fail
    (try simp only [Exit.inBlock, Exit.then])
    refine bodyPost_end (results_none rfl _ _ _) rfl ?_
    exact ⟨rfl, HC.out.1, but_of HC.out.2⟩
  · go_upto_region 2 with (fail)
    obtain ⟨cw, hcw⟩ : ∃ q : Array Value, #[.slice A' m c', .int .i64 t', .int .i64 o'] = q := ⟨_, rfl⟩
    rw [hcw] at v42
    rw [hcw]
    have hc3 : cw.size = 3 := by rw [← hcw]; rfl
    have hcl : cw.toList = [.slice A' m c', .int .i64 t', .int .i64 o'] := by rw [← hcw]
    have hc1 : cw.all (·.oneCell') = true := by rw [← hcw]; simp [Value.oneCell']
    have hw3 : (Try.prog.info? 37).map (·.size) = some cw.size := by rw [hc3]; kernel_rfl
    have hth : U.there F o cw.size := there_blk hF2 (by omega)
    obtain ⟨X, hX⟩ : ∃ q, U.setCells F o cw.toList = q := ⟨_, rfl⟩
    have hFX : X.heap[F]? = some (.cells (setMany cs o cw.toList) T) := by rw [← hX]; exact blk_sets _ o hF2
    have hBX : But w.heap.size (· = F) w X := by rw [← hX]; exact but_sets _ F o (but_of hB2) rfl
    have hsz : (setMany cs o cw.toList).size = cs.size := setMany_size _ _ _
    obtain ⟨v3, hv3⟩ : ∃ v, (setMany cs o cw.toList)[o + 3]? = some v := ⟨_, Array.getElem?_eq_getElem (by rw [hsz]; omega)⟩
    have k3 : X.cell? ⟨F, o + 3, none⟩ = some v3 := blk_cell hFX hv3
    have f3 := blk_frozen hFX (o + 3)
    have HC := Lib.hid (And.intro hcl (And.intro hFX (And.intro hBX hsz)))
    clear hv3 hsz hS0 hF hFV h0 h1 h2 h3 hcw hc3 hcl hFX hBX
    go_wp2_with (first
      | (refine wpList_load_row rfl 37 (.tmp 4) rfl _ rfl _ cw (0, 0) _ v42 Try.underlying37 rfl hw3 ?_)
      | (refine wpList_store_mid rfl 37 (.tmp 24) (.tmp 22) rfl F o cw rfl rfl hth hw3 hc1 ?_; rw [hX])
      | fail)
    (try simp only [Exit.inBlock, Exit.then])
    refine bodyPost_end (results_none rfl _ _ _) rfl ?_
    refine ⟨rfl, ?_, HC.out.2.2.1.set (p := ⟨F, o + 3, none⟩) rfl _⟩
    have := blk_set HC.out.2.1 (o + 3) (.bool true)
    rw [HC.out.1] at this
    exact this
end Go.Proofs.Ytnojikbecohhfaa
