/- slices.Collect over entries. -/
import Derived.Test.YthmjkgpfnpdddaaLfSeq
namespace Go.Proofs.Ythmjkgpfnpdddaa
set_option linter.unusedSimpArgs false
set_option linter.unusedVariables false
open Go.RowKit Go.Shelf Go.Sort
attribute [local go_sem] Oper.semAt_some
attribute [-go_sem] Builtin.append_

theorem elemE : Elem Try.prog 73 35 56 := elem_of (z := .agg en0.cells.toArray) (by kernel_rfl) (by simp [Value.cells, en0_ok.len]) (by omega)
def entP (l : List UInt8) {m : Nat} (pre : List (Fin m)) : List EN := pre.map fun x => enAt l (x.1 * 36)
theorem entP_snoc (l : List UInt8) {m : Nat} (pre : List (Fin m)) (x : Fin m) : ens (entP l (pre ++ [x])) = ens (entP l pre) ++ (enAt l (x.1 * 36)).cells := by
  simp [entP, ens, List.flatMap_append]
def entL (l : List UInt8) (n : Nat) : List EN := (List.range n).map fun k => enAt l (k * 36)
theorem entP_all (l : List UInt8) (n : Nat) : entP l (List.finRange n) = entL l n := by
  unfold entP entL
  apply List.ext_getElem?
  intro i
  rw [List.getElem?_map, List.getElem?_map]
  rcases Nat.lt_or_ge i n with h | h
  · rw [List.getElem?_eq_getElem (by simpa using h), List.getElem?_eq_getElem (by simpa using h)]
    simp [List.getElem_finRange, List.getElem_range]
  · rw [List.getElem?_eq_none (by simpa using h), List.getElem?_eq_none (by simpa using h)]
    rfl

set_option maxRecDepth 100000 in
set_option maxHeartbeats 800000 in
theorem append_ens {BX b o cap cnt : Nat} {l : List UInt8} {w : World} (hl : l.length = cnt * 36) (hc : cnt ≤ 1000) (hcap : cnt * 36 ≤ cap) (hm : cap ≤ maxLen) (hbx : BX < w.heap.size) (hb : b < w.heap.size)
    (hBX : w.cell? ⟨BX, 0, none⟩ = some (.slice (some ⟨b, o, none⟩) (cnt * 36) cap)) (hr : w.rangeAt b o (bvs l)) :
    Calls Try.prog 58 #[.slice none 0 0, .func (.func 59) #[] #[.pointer (some ⟨BX, 0, none⟩)]] w fun e w' =>
      ∃ A c, e = .returned (.slice A (cnt) c) ∧ w'.ownsRow w.heap.size 73 35 (.slice A (cnt) c) (cnt) (ens (entL l cnt)) ∧ Below w.heap.size w w' := by
  refine (callsIn_wide (n := 12)).1 ?_
  refine callsIn_of_wp_marks Try.func58 rfl trivial ?_ rfl
  simp only [Try.ntmps58, List.size_toArray, List.length_cons, List.length_nil, Nat.reduceAdd, Nat.reduceSub, Array.replicate_succ, Array.replicate_zero, List.push_toArray, List.append_toArray, List.nil_append, List.cons_append]
  gi_wp2
  obtain ⟨W1, hW1⟩ : ∃ W1, w.alloc (.cells #[.slice none 0 0] 49) = W1 := ⟨_, rfl⟩
  try rw [hW1]
  have hs1a : W1.heap.size ≤ w.heap.size + 1 := by rw [← hW1]; simp
  have hs1b : w.heap.size + 1 ≤ W1.heap.size := by rw [← hW1]; simp
  have bS : Boxed W1 w.heap.size 49 (.slice none 0 0) := by rw [← hW1]; exact Boxed.new w _ _
  have hBW : Below w.heap.size w W1 := by rw [← hW1]; exact (Below.refl _ _).alloc (Nat.le_refl _) _
  have hBX1 := (hBW.cell (p := ⟨BX, 0, none⟩) hbx).trans hBX
  have hr1 := bRange hBW hb hr
  clear hW1
  let act : Fin (cnt) → Nat → Act := fun x g => ⟨#[.slice none 0 0, Value.func (.func 59) #[] #[.pointer (some ⟨BX, 0, none⟩)], .pointer (some ⟨w.heap.size, 0, none⟩), undef, .slice none 0 0, .pointer (some ⟨g, 0, none⟩), Value.func (.func 59) #[] #[.pointer (some ⟨BX, 0, none⟩)], .agg (enAt l (x.1 * 36)).cells.toArray, undef, undef, undef, undef, undef], []⟩
  refine wpIn_rangeFunc_all rfl (by omega) (gf := 59) (lb := #[.pointer (some ⟨BX, 0, none⟩)]) rfl trivial (enters_of Try.func59 (by kernel_rfl) rfl)
    (entries_all (w := W1) (sb := w.heap.size) hl hc hcap hm (by omega) (by omega) (by omega) (by omega) (by omega) hBX1 hr1) (fun _ => rfl)
    (fun (pre : List (Fin (cnt))) V => (∃ v, Boxed V w.heap.size 49 v ∧ V.ownsRow (W1.heap.size + 5) 73 35 v pre.length (ens (entP l pre)) ∧ True) ∧ But W1.heap.size (· = w.heap.size) W1 V)
    (((holdsRow_own (W1.heap.size + 5) w.heap.size 49 73 35 (fun (pre : List (Fin (cnt))) => pre.length) (fun pre => ens (entP l pre)) (fun _ _ => True)).from _).and (But.own (a := W1) (n := W1.heap.size) (X := (· = w.heap.size)) (Nat.le_refl _) (Nat.le_refl _)))
    ⟨⟨_, bS, World.ownsRow_nil _ _ _ _, trivial⟩, But.refl _ _ _⟩
    (fun x a' V => ∃ g, a' = act x g ∧ W1.heap.size + 5 ≤ g ∧ V.heap[g]? = some (.cells (enAt l (x.1 * 36)).cells.toArray 73))
    (fun x a' => blk_ownAt (act x) _ _ a') ?assign ?body ?done
  case assign =>
    rintro l0 pre x V K ⟨⟨v, hv, hrow, -⟩, hB⟩ hmV hK
    have hxi := en_info (enAt_ok hl x.2)
    have hxs := en_sizes en0_ok (enAt_ok hl x.2)
    have hone := one_en (enAt l (x.1 * 36))
    have hz := enZ
    have HK := Lib.hid hK
    have HV := Lib.hid (And.intro hv (And.intro hrow hB))
    clear hK hv hrow hB hBX1 hr1 bS
    simp only [env]
    have hone2 := all_oneCell_toArray hone
    clear hone
    obtain ⟨cs, hcs⟩ : ∃ cs, (enAt l (x.1 * 36)).cells.toArray = cs := ⟨_, rfl⟩
    rw [hcs] at hxi hxs hone2
    rw [hcs]
    rw [fold_one]
    simp only [List.setIfInBounds_toArray, List.set_cons_zero, List.set_cons_succ]
    have HCS := Lib.hid hcs
    clear hcs
    gi_wp2_with (first
      | (refine wpListIn_val rfl (fun c e => by cases e) rfl (exec_new hz rfl _) ?_)
      | (refine wpListIn_skip rfl (fun c e => by cases e) rfl (exec_store_row (x := .tmp 5) (y := .tmp 7) rfl rfl rfl (heap_alloc_new _ _) hxi hxs hone2) ?_)
      | fail)
    obtain ⟨Y, hY, y5, bY⟩ := newRow V en0.cells.toArray cs 73
    (try rw [hY])
    obtain ⟨hv, hrow, hB⟩ := HV.out
    refine HK.out _ _ (keeps_of_below bY _) (but_of (bY.mono hmV)) ⟨⟨v, bBlk bY (Array.getElem?_eq_some_iff.1 hv).1 hv, own_below hrow bY, trivial⟩, hB.trans (but_of (bY.mono hB.size))⟩ ⟨V.heap.size, ?_, hmV, by rw [HCS.out]; exact y5⟩
    show _ = act x V.heap.size
    simp only [act, HCS.out]
  case done =>
    rintro D ys V hD rfl ⟨⟨v, hv, hrow, -⟩, hB⟩ hK
    obtain ⟨A, cp, rfl, hcp, -⟩ := own_form hrow
    rw [List.length_finRange] at hrow hv hcp
    rw [entP_all] at hrow
    have hvc := hv.cell
    have HV := Lib.hid (And.intro hrow (And.intro hB hK))
    clear hrow hB hK hv hl
    gi_wp2
    refine ⟨by simp, .inl ⟨_, _, rfl, run_takeDeferred HV.out.2.2, ?_⟩⟩
    obtain ⟨hrow, hB, hK⟩ := HV.out
    refine ⟨_, results_tmp rfl _ _ _, A, cp, rfl, ?_, ?_⟩
    · exact own_base (ownsRow_putObj hrow _ hK rfl) (by omega)
    · have h1 : Below w.heap.size w V := hBW.trans (hB.below (by omega) (fun k e => by omega))
      exact h1.trans (belowK_b (w := w) (Nat.le_refl _) V D _ (.deferred none) (by omega) hK rfl rfl)
  case body =>
    rintro l0 pre x a' V ⟨⟨v, hv, hrow, -⟩, hB⟩ ⟨Bx, rfl, hBx, bX⟩ hlt hmV
    obtain ⟨Av, cv, rfl, -⟩ := own_form hrow
    have hxi := en_info (enAt_ok hl x.2)
    have hone := one_en (enAt l (x.1 * 36))
    have hsn := entP_snoc l pre x
    have hkl : (enAt l (x.1 * 36)).cells.length = 35 := (enAt_ok hl x.2).len
    obtain ⟨cl, hcl⟩ : ∃ c, (enAt l (x.1 * 36)).cells = c := ⟨_, rfl⟩
    rw [hcl] at hxi hone hsn hkl bX
    simp only [act, hcl]
    have hcn : cnt ≤ 1000 := hc
    obtain ⟨A', c', w1, hrun, hown', hgrow, _⟩ := run_app (P := Try.prog) (V.alloc (.cells cl.toArray 73)) (ty := 49) (t := 49) Try.underlying49 elemE (hrow.alloc _) (Sl.new (n := 1) (heap_alloc_new _ _) (by simpa using hkl)) (c := 1) (by simpa using hone) (by simp only [maxLen]; omega) (by omega) (by simp; omega)
    obtain ⟨hv1, hv2, hr2, hk2, hb2⟩ := box_append (W := V) hv (by omega) hrow hmV hown' hgrow
    have hvc := hv.cell
    have hc1 := hv1.cell
    have hf1 := hv1.frozen
    have hbs := run_slice1 (P := Try.prog) (t := 49) enZ Try.underlying49 (by rw [List.size_toArray, en0_ok.len]) (by omega) (by omega) cl hkl V
    have hrb := range_blk bX
    have hxl : (Try.prog.info? 73).map (·.size) = some cl.length := by rw [hkl]; kernel_rfl
    have HR := Lib.hid (And.intro hv2 (And.intro hr2 (And.intro hk2 (And.intro hb2 (And.intro hB hsn)))))
    clear hv2 hr2 hk2 hb2 hv1 hown' hgrow hrow hv hB hsn hBX1 hr1 bS
    gi_wp2_with (first
      | (refine wpListIn_val (o := ⟨some 9, _, _, _, _, _⟩) (v := .agg cl.toArray) (w' := V) rfl (fun c e => by cases e) rfl (by refine exec_load_row (x := .tmp 5) ?_ ?_ hrb Try.underlying73 ?_ hxl <;> rfl) ?_)
      | (refine wpListIn_val (o := ⟨some 10, _, _, _, _, _⟩) (v := .slice (some ⟨V.heap.size, 0, none⟩) 1 1) (w' := V.alloc (.cells cl.toArray 73)) rfl (fun c e => by cases e) rfl (by refine exec_slice1 (x := .tmp 9) ?_ ?_ hbs <;> rfl) ?_)
      | fail)
    obtain ⟨hv2, hr2, hk2, hb2, hB, hsn⟩ := HR.out
    refine ⟨hk2.from _, hb2, ⟨⟨_, hv2, ?_⟩, hB.trans (but_less hb2 (by omega))⟩⟩
    rw [List.length_append, hsn]
    exact hr2
theorem collect_ens {BX b o cap cnt : Nat} {l : List UInt8} {w : World} (hl : l.length = cnt * 36) (hc : cnt ≤ 1000) (hcap : cnt * 36 ≤ cap) (hm : cap ≤ maxLen) (hbx : BX < w.heap.size) (hb : b < w.heap.size)
    (hBX : w.cell? ⟨BX, 0, none⟩ = some (.slice (some ⟨b, o, none⟩) (cnt * 36) cap)) (hr : w.rangeAt b o (bvs l)) :
    Calls Try.prog 45 #[.func (.func 59) #[] #[.pointer (some ⟨BX, 0, none⟩)]] w fun e w' =>
      ∃ A c, e = .returned (.slice A (cnt) c) ∧ w'.ownsRow w.heap.size 73 35 (.slice A (cnt) c) (cnt) (ens (entL l cnt)) ∧ Below w.heap.size w w' := by
  have H := append_ens hl hc hcap hm hbx hb hBX hr
  clear hr hBX hl
  go_enter Try.func45, Try.ntmps45
  go_wp2_with fail
  refine Calls.mono H ?_
  rintro e w' ⟨A, c, rfl, h1, h2⟩
  have H1 := Lib.hid (And.intro h1 h2)
  clear H h1 h2
  go_wp2_with fail
  go_ret
  exact ⟨_, _, rfl, H1.out.1, H1.out.2⟩
end Go.Proofs.Ythmjkgpfnpdddaa
