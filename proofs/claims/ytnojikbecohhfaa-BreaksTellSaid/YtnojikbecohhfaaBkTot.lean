/- The walks over breaks.Total and breaks.May (s10/bktot.py writes it). -/
import Derived.Test.YtnojikbecohhfaaBkWalk
namespace Go.Proofs.Ytnojikbecohhfaa
set_option linter.unusedSimpArgs false
set_option linter.unusedVariables false
open Go.RowKit Go.Sort

def totT (o : Option (WY × Bool)) : Value := .tuple #[.int .i64 (wkY o).total, .int .i64 (wkY o).over, .int .i64 (if o.isSome then 0 else 1)]
attribute [-go_sem] Builtin.append_
set_option maxHeartbeats 16000000 in
set_option maxRecDepth 100000 in
theorem total_any {A B : Option Addr} {n c m c' : Nat} {l : List It} {bs : List Int} (sw sh st sc si : Int) (hn : n ≤ 1000000) (hm : m ≤ 1000000) (w : World) (h : Sl w w.heap.size 6 A n (encs l)) (hb : IvAt w w.heap.size B m c' bs) :
    Calls Try.prog 10 #[.slice A n c, .agg #[.int .i64 sw, .int .i64 sh, .int .i64 st, .int .i64 sc, .int .i64 si], .slice B m c'] w (Ret w (totT (walkP l (cutS sw) (cutS st) bs))) := by
  have hwd := cutS_bd sw
  have hof := fun U => of_any' (A := A) (n := n) (c := c) sw sh st sc si U
  obtain ⟨wd, hwd0⟩ : ∃ q, cutS sw = q := ⟨_, rfl⟩
  obtain ⟨tl, htl0⟩ : ∃ q, cutS st = q := ⟨_, rfl⟩
  simp only [hwd0, htl0] at hwd hof ⊢
  obtain ⟨o, ho⟩ : ∃ q, walkP l wd tl bs = q := ⟨_, rfl⟩
  have hwk := fun U (hb1 : Below w.heap.size w U) => walk_any (c := c) (c' := c') (wd := wd) (tl := tl) hn hm hwd U (h.next hb1) (hb.nxt hb1)
  simp only [ho] at hwk ⊢
  unfold pgv at hof hwk
  obtain ⟨V1, hV1⟩ : ∃ q, w.alloc (.cells #[.int .i64 sw, .int .i64 sh, .int .i64 st, .int .i64 sc, .int .i64 si] 24) = q := ⟨_, rfl⟩
  have y3 : V1.heap[w.heap.size]? = some (.cells #[.int .i64 sw, .int .i64 sh, .int .i64 st, .int .i64 sc, .int .i64 si] 24) := by rw [← hV1]; exact heap_alloc_new _ _
  have hb1 : Below w.heap.size w V1 := by rw [← hV1]; exact (Below.refl _ _).alloc (Nat.le_refl _) _
  have hsi : (Try.prog.info? 24).map (·.size) = some (#[.int .i64 sw, .int .i64 sh, .int .i64 st, .int .i64 sc, .int .i64 si] : Array Value).size := sty_size
  have HB := Lib.hid hb1
  have hwz := wyZ
  have wys := wy_size
  clear h hb hb1 hwd0 htl0 ho
  go_enter Try.func10, Try.ntmps10
  go_upto_region 1 with (fail)
  try rw [hV1]
  clear hV1
  refine wp_region_lit ?_
  iterate 3 (first | go_guarded | go_step)
  (try simp only [Act.put, List.setIfInBounds_toArray, List.set_cons_zero, List.set_cons_succ])
  refine wpList_load_row rfl 24 (.tmp 4) rfl _ rfl _ #[.int .i64 sw, .int .i64 sh, .int .i64 st, .int .i64 sc, .int .i64 si] (0, 0) _ y3 Try.underlying24 rfl hsi ?_
  (try simp only [Act.put, List.setIfInBounds_toArray, List.set_cons_zero, List.set_cons_succ])
  clear hsi y3
  go_wp2_with fail
  refine Calls.mono (hof _) ?_
  rintro e V2 ⟨rfl, hb2⟩
  clear hof
  have hwk2 := hwk V2 (bNext HB.out hb2)
  have HB2 := Lib.hid (bNext HB.out hb2)
  clear hb2 hwk
  go_wp2_with fail
  refine Calls.mono hwk2 ?_
  rintro e V3 ⟨A3, m3, c3, rfl, -, -, hb3⟩
  unfold wyv
  clear hwk2
  obtain ⟨yt, hyt⟩ : ∃ q, (wkY o).total = q := ⟨_, rfl⟩
  obtain ⟨yo, hyo⟩ : ∃ q, (wkY o).over = q := ⟨_, rfl⟩
  rw [hyt, hyo]
  have hi : (Try.prog.info? 37).map (·.size) = some (#[.slice A3 m3 c3, .int .i64 yt, .int .i64 yo] : Array Value).size := wys
  obtain ⟨Y, hY, y9, bY⟩ := newRow V3 wyz #[.slice A3 m3 c3, .int .i64 yt, .int .i64 yo] 37
  go_upto_region 2 with (first
    | (refine wpList_new rfl hwz rfl ?_)
    | (refine wpList_store_row rfl 37 (.tmp 9) (.tmp 18) rfl _ #[.slice A3 m3 c3, .int .i64 yt, .int .i64 yo] rfl rfl _ wyz (heap_alloc_new _ _) hi rfl (by simp [Value.oneCell']) ?_)
    | fail)
  try rw [hY]
  clear hY hwz
  have HB3 := Lib.hid (bNext HB2.out (bNext hb3 bY))
  clear hb3 bY
  have HY := Lib.hid (And.intro hyt hyo)
  clear hyt hyo
  cases o with
  | none =>
    simp only [Option.isSome_none]
    clear y9
    go_wp2_with fail
    go_returns
    exact Ret.mk rfl HB3.out
  | some p =>
    simp only [Option.isSome_some]
    have k1 : Y.cell? ⟨V3.heap.size, 1, none⟩ = some (.int .i64 yt) := blk_cell y9 rfl
    have k2 : Y.cell? ⟨V3.heap.size, 2, none⟩ = some (.int .i64 yo) := blk_cell y9 rfl
    have l9 := (Array.getElem?_eq_some_iff.1 y9).1
    clear y9 hi
    go_upto_region 4 with (fail)
    let S : World → Prop := fun w' => Below Y.heap.size Y w'
    have hS0 : S Y.drew := (Below.refl _ _).drew
    have q1 : ∀ w', S w' → w'.cell? ⟨V3.heap.size, 1, none⟩ = some (.int .i64 yt) := fun w' h => (Below.cell (show Below Y.heap.size Y w' from h) (p := ⟨V3.heap.size, 1, none⟩) l9).trans k1
    have q2 : ∀ w', S w' → w'.cell? ⟨V3.heap.size, 2, none⟩ = some (.int .i64 yo) := fun w' h => (Below.cell (show Below Y.heap.size Y w' from h) (p := ⟨V3.heap.size, 2, none⟩) l9).trans k2
    refine wp_region_held (S := S) (by kernel_rfl) ?_
    change wpAnyH _ _ _ _ S _ _ _ Y.drew
    change At 0 _
    iterate 7 (first | (apply tkA; (case hi => (simp only [List.getElem?_toArray, List.getElem?_cons_zero, List.getElem?_cons_succ]; rfl)); (case hw => rfl); (case hy => (intro w' hSw; have h1 := q1 w' hSw; have h2 := q2 w' hSw; (try simp only [S] at hSw); go_simp; (try with_reducible rfl))); (case hs => kernel_rfl); (case hf => kernel_rfl); (case hr => kernel_rfl); (case hQ => exact fun _ _ _ h => h); (case hS => assumption); (try simp only [Act.put, List.setIfInBounds_toArray, List.set_cons_zero, List.set_cons_succ, Nat.reduceAdd])) | (apply skA; (case hi => (simp only [List.getElem?_toArray, List.getElem?_cons_zero, List.getElem?_cons_succ]; rfl)); (case hw => rfl); (case hs => kernel_rfl); (case hf => kernel_rfl); (case hr => kernel_rfl); (case hQ => exact fun _ _ _ h => h); (case hS => assumption); (try simp only [Act.put, List.setIfInBounds_toArray, List.set_cons_zero, List.set_cons_succ, Nat.reduceAdd])))
    change wpAnyH _ _ _ _ _ _ _ _ _
    refine wpAnyH_done (by kernel_rfl) ?_ _
    clear q1 q2 k1 k2
    have HBF := Lib.hid (bNext HB3.out (show Below Y.heap.size Y Y.drew from hS0))
    clear hS0
    go_wp2_with fail
    go_returns
    exact Ret.mk (by unfold totT; rw [HY.out.1, HY.out.2]; rfl) HBF.out
set_option maxHeartbeats 16000000 in
set_option maxRecDepth 100000 in
theorem may_any {A B : Option Addr} {n c m c' : Nat} {l : List It} {bs : List Int} (sw sh st sc si : Int) (hn : n ≤ 1000000) (hm : m ≤ 1000000) (w : World) (h : Sl w w.heap.size 6 A n (encs l)) (hb : IvAt w w.heap.size B m c' bs) :
    Calls Try.prog 12 #[.slice A n c, .agg #[.int .i64 sw, .int .i64 sh, .int .i64 st, .int .i64 sc, .int .i64 si], .slice B m c'] w (Ret w (.bool (wkM (walkP l (cutS sw) (cutS st) bs)))) := by
  have hwd := cutS_bd sw
  have hof := fun U => of_any' (A := A) (n := n) (c := c) sw sh st sc si U
  obtain ⟨wd, hwd0⟩ : ∃ q, cutS sw = q := ⟨_, rfl⟩
  obtain ⟨tl, htl0⟩ : ∃ q, cutS st = q := ⟨_, rfl⟩
  simp only [hwd0, htl0] at hwd hof ⊢
  obtain ⟨o, ho⟩ : ∃ q, walkP l wd tl bs = q := ⟨_, rfl⟩
  have hwk := fun U (hb1 : Below w.heap.size w U) => walk_any (c := c) (c' := c') (wd := wd) (tl := tl) hn hm hwd U (h.next hb1) (hb.nxt hb1)
  simp only [ho] at hwk ⊢
  unfold pgv at hof hwk
  obtain ⟨V1, hV1⟩ : ∃ q, w.alloc (.cells #[.int .i64 sw, .int .i64 sh, .int .i64 st, .int .i64 sc, .int .i64 si] 24) = q := ⟨_, rfl⟩
  have y3 : V1.heap[w.heap.size]? = some (.cells #[.int .i64 sw, .int .i64 sh, .int .i64 st, .int .i64 sc, .int .i64 si] 24) := by rw [← hV1]; exact heap_alloc_new _ _
  have hb1 : Below w.heap.size w V1 := by rw [← hV1]; exact (Below.refl _ _).alloc (Nat.le_refl _) _
  have hsi : (Try.prog.info? 24).map (·.size) = some (#[.int .i64 sw, .int .i64 sh, .int .i64 st, .int .i64 sc, .int .i64 si] : Array Value).size := sty_size
  have HB := Lib.hid hb1
  have hwz := wyZ
  have wys := wy_size
  clear h hb hb1 hwd0 htl0 ho
  go_enter Try.func12, Try.ntmps12
  go_upto_region 1 with (fail)
  try rw [hV1]
  clear hV1
  refine wp_region_lit ?_
  iterate 3 (first | go_guarded | go_step)
  (try simp only [Act.put, List.setIfInBounds_toArray, List.set_cons_zero, List.set_cons_succ])
  refine wpList_load_row rfl 24 (.tmp 4) rfl _ rfl _ #[.int .i64 sw, .int .i64 sh, .int .i64 st, .int .i64 sc, .int .i64 si] (0, 0) _ y3 Try.underlying24 rfl hsi ?_
  (try simp only [Act.put, List.setIfInBounds_toArray, List.set_cons_zero, List.set_cons_succ])
  clear hsi y3
  go_wp2_with fail
  refine Calls.mono (hof _) ?_
  rintro e V2 ⟨rfl, hb2⟩
  clear hof
  have hwk2 := hwk V2 (bNext HB.out hb2)
  have HB2 := Lib.hid (bNext HB.out hb2)
  clear hb2 hwk
  go_wp2_with fail
  refine Calls.mono hwk2 ?_
  rintro e V3 ⟨A3, m3, c3, rfl, -, -, hb3⟩
  unfold wyv
  clear hwk2
  obtain ⟨yt, hyt⟩ : ∃ q, (wkY o).total = q := ⟨_, rfl⟩
  obtain ⟨yo, hyo⟩ : ∃ q, (wkY o).over = q := ⟨_, rfl⟩
  rw [hyt, hyo]
  have hi : (Try.prog.info? 37).map (·.size) = some (#[.slice A3 m3 c3, .int .i64 yt, .int .i64 yo] : Array Value).size := wys
  obtain ⟨Y, hY, y9, bY⟩ := newRow V3 wyz #[.slice A3 m3 c3, .int .i64 yt, .int .i64 yo] 37
  go_upto_region 2 with (first
    | (refine wpList_new rfl hwz rfl ?_)
    | (refine wpList_store_row rfl 37 (.tmp 7) (.tmp 16) rfl _ #[.slice A3 m3 c3, .int .i64 yt, .int .i64 yo] rfl rfl _ wyz (heap_alloc_new _ _) hi rfl (by simp [Value.oneCell']) ?_)
    | fail)
  try rw [hY]
  clear hY hwz
  have HB3 := Lib.hid (bNext HB2.out (bNext hb3 bY))
  clear hb3 bY
  clear y9 hyt hyo
  go_wp2_with fail
  go_returns
  exact Ret.mk rfl HB3.out
end Go.Proofs.Ytnojikbecohhfaa

