/- slices.Collect over blocks. -/
import Derived.Test.YthmjkgpfnpdddaaObjSeq
namespace Go.Proofs.Ythmjkgpfnpdddaa
set_option linter.unusedSimpArgs false
set_option linter.unusedVariables false
open Go.RowKit Go.Shelf Go.Sort
attribute [local go_sem] Oper.semAt_some
attribute [-go_sem] Builtin.append_

theorem keeps_of_below {w w' : World} (h : Below w.heap.size w w') (B : Nat) : KeepsFrom B w w' := ⟨h.size, fun k o _ ho _ => bBlk h (Array.getElem?_eq_some_iff.1 ho).1 ho⟩
theorem but_less {n m : Nat} {X : Nat → Prop} {w w' : World} (h : But n X w w') (hm : m ≤ n) : But m X w w' := ⟨h.os, h.tape, h.output, h.size, fun k hk hx => h.block k (by omega) hx⟩
theorem blk_ownAt {β : Type} {B m : Nat} (act : Nat → Act) (cs : Array Value) (t : TypeId) (a' : Act) : OwnFrom B (fun (_ : β) V => ∃ g, a' = act g ∧ m ≤ g ∧ V.heap[g]? = some (.cells cs t)) :=
  fun _ X Y row ⟨g, e, hm, h⟩ hg hr => ⟨g, e, hm, (hg.block g (Array.getElem?_eq_some_iff.1 h).1 (fun e' => by obtain ⟨o, ho, hc⟩ := (hr g e'.symm).2; rw [h] at ho; cases ho; cases hc)).trans h⟩
theorem fold_one (t : Array Value) (p : Nat) (v : Value) : ((#[p] : Array Nat).zip #[v]).foldl (fun t (x : Nat × Value) => t.setIfInBounds x.1 x.2) t = t.setIfInBounds p v := by simp
theorem exec_slice1 {P : Program} {ρ : Operand → Value} {o : Oper} {t : TypeId} {x : Operand} {v u : Value} {w w' : World} (ho : o.op = .buildSlice t 1 #[(0, x)]) (hx : ρ x = v) (hrun : (Instr.buildSlice t 1 #[(0, v)]).run P w = .ok u w') : (execOp ρ o).run P w = .ok (.value u) w' := by
  unfold execOp
  simp only [ho, List.map_toArray, List.map_cons, List.map_nil, hx, Sem.run_bind, hrun, Result.andThen_ok, Sem.run_pure]
theorem elemB : Elem Try.prog 40 128 128 := elem_of (z := .agg (bvs zblk).toArray) (by kernel_rfl) (by rw [show (Value.agg (bvs zblk).toArray).cells = (bvs zblk).toArray from rfl, List.size_toArray, bvs_len, zblk_len]) (by omega)
def cutP (l : List UInt8) {m : Nat} (pre : List (Fin m)) : List Blk := pre.map fun x => blkAt l x.1
theorem cutP_snoc (l : List UInt8) {m : Nat} (pre : List (Fin m)) (x : Fin m) : bsv (cutP l (pre ++ [x])) = bsv (cutP l pre) ++ bvs (blkAt l x.1) := by
  simp [cutP, bsv, List.flatMap_append]
theorem cutP_all (l : List UInt8) : cutP l (List.finRange (cutN l.length)) = cutB l := by
  unfold cutP cutB
  apply List.ext_getElem?
  intro i
  rw [List.getElem?_map, List.getElem?_map]
  rcases Nat.lt_or_ge i (cutN l.length) with h | h
  · rw [List.getElem?_eq_getElem (by simpa using h), List.getElem?_eq_getElem (by simpa using h)]
    simp [List.getElem_finRange, List.getElem_range]
  · rw [List.getElem?_eq_none (by simpa using h), List.getElem?_eq_none (by simpa using h)]
    rfl

set_option maxRecDepth 100000 in
set_option maxHeartbeats 800000 in
theorem append_seq {BX b o cap n : Nat} {l : List UInt8} {w : World} (hl : l.length = n) (hc : n ≤ 100000) (hcap : n ≤ cap) (hm : cap ≤ maxLen) (hbx : BX < w.heap.size) (hb : b < w.heap.size)
    (hBX : w.cell? ⟨BX, 0, none⟩ = some (.slice (some ⟨b, o, none⟩) n cap)) (hr : w.rangeAt b o (bvs l)) :
    Calls Try.prog 51 #[.slice none 0 0, .func (.func 52) #[] #[.pointer (some ⟨BX, 0, none⟩)]] w fun e w' =>
      ∃ A c, e = .returned (.slice A (cutN n) c) ∧ w'.ownsRow w.heap.size 40 128 (.slice A (cutN n) c) (cutN n) (bsv (cutB l)) ∧ Below w.heap.size w w' := by
  refine (callsIn_wide (n := 12)).1 ?_
  refine callsIn_of_wp_marks Try.func51 rfl trivial ?_ rfl
  simp only [Try.ntmps51, List.size_toArray, List.length_cons, List.length_nil, Nat.reduceAdd, Nat.reduceSub, Array.replicate_succ, Array.replicate_zero, List.push_toArray, List.append_toArray, List.nil_append, List.cons_append]
  gi_wp2
  obtain ⟨W1, hW1⟩ : ∃ W1, w.alloc (.cells #[.slice none 0 0] 23) = W1 := ⟨_, rfl⟩
  try rw [hW1]
  have hs1a : W1.heap.size ≤ w.heap.size + 1 := by rw [← hW1]; simp
  have hs1b : w.heap.size + 1 ≤ W1.heap.size := by rw [← hW1]; simp
  have bS : Boxed W1 w.heap.size 23 (.slice none 0 0) := by rw [← hW1]; exact Boxed.new w _ _
  have hBW : Below w.heap.size w W1 := by rw [← hW1]; exact (Below.refl _ _).alloc (Nat.le_refl _) _
  have hBX1 := (hBW.cell (p := ⟨BX, 0, none⟩) hbx).trans hBX
  have hr1 := bRange hBW hb hr
  clear hW1
  let act : Fin (cutN n) → Nat → Act := fun x g => ⟨#[.slice none 0 0, Value.func (.func 52) #[] #[.pointer (some ⟨BX, 0, none⟩)], .pointer (some ⟨w.heap.size, 0, none⟩), undef, .slice none 0 0, .pointer (some ⟨g, 0, none⟩), Value.func (.func 52) #[] #[.pointer (some ⟨BX, 0, none⟩)], .agg (bvs (blkAt l x.1)).toArray, undef, undef, undef, undef, undef], []⟩
  refine wpIn_rangeFunc_all rfl (by omega) (gf := 52) (lb := #[.pointer (some ⟨BX, 0, none⟩)]) rfl trivial (enters_of Try.func52 (by kernel_rfl) rfl)
    (cut_all (w := W1) (sb := w.heap.size) hl hc hcap hm (by omega) (by omega) (by omega) (by omega) (by omega) hBX1 hr1) (fun _ => rfl)
    (fun (pre : List (Fin (cutN n))) V => (∃ v, Boxed V w.heap.size 23 v ∧ V.ownsRow (W1.heap.size + 5) 40 128 v pre.length (bsv (cutP l pre)) ∧ True) ∧ But W1.heap.size (· = w.heap.size) W1 V)
    (((holdsRow_own (W1.heap.size + 5) w.heap.size 23 40 128 (fun (pre : List (Fin (cutN n))) => pre.length) (fun pre => bsv (cutP l pre)) (fun _ _ => True)).from _).and (But.own (a := W1) (n := W1.heap.size) (X := (· = w.heap.size)) (Nat.le_refl _) (Nat.le_refl _)))
    ⟨⟨_, bS, World.ownsRow_nil _ _ _ _, trivial⟩, But.refl _ _ _⟩
    (fun x a' V => ∃ g, a' = act x g ∧ W1.heap.size + 5 ≤ g ∧ V.heap[g]? = some (.cells (bvs (blkAt l x.1)).toArray 40))
    (fun x a' => blk_ownAt (act x) _ _ a') ?assign ?body ?done
  case assign =>
    rintro l0 pre x V K ⟨⟨v, hv, hrow, -⟩, hB⟩ hmV hK
    have hxi := bk_info (blkAt_len l x.1)
    have hxs := blk_sizes zblk_len (blkAt_len l x.1)
    have hone := oneCell_bvs (blkAt l x.1)
    have hz := blkZ
    have HK := Lib.hid hK
    have HV := Lib.hid (And.intro hv (And.intro hrow hB))
    clear hK hv hrow hB hBX1 hr1 bS
    simp only [bkv]
    have hone2 := all_oneCell_toArray hone
    clear hone
    obtain ⟨cs, hcs⟩ : ∃ cs, (bvs (blkAt l x.1)).toArray = cs := ⟨_, rfl⟩
    rw [hcs] at hxi hxs hone2
    rw [hcs]
    rw [fold_one]
    simp only [List.setIfInBounds_toArray, List.set_cons_zero, List.set_cons_succ]
    have HCS := Lib.hid hcs
    clear hcs
    gi_wp2_with (first
      | (refine wpListIn_val rfl (fun c e => by cases e) rfl (exec_new hz rfl _) ?_)
      | (refine wpListIn_skip rfl (fun c e => by cases e) rfl (exec_store_row (x := .tmp 5) (y := .tmp 7) rfl rfl rfl (heap_alloc_new _ _) hxi hxs hone2) ?_)
      | fail)
    obtain ⟨Y, hY, y5, bY⟩ := newRow V (bvs zblk).toArray cs 40
    (try rw [hY])
    obtain ⟨hv, hrow, hB⟩ := HV.out
    refine HK.out _ _ (keeps_of_below bY _) (but_of (bY.mono hmV)) ⟨⟨v, bBlk bY (Array.getElem?_eq_some_iff.1 hv).1 hv, own_below hrow bY, trivial⟩, hB.trans (but_of (bY.mono hB.size))⟩ ⟨V.heap.size, ?_, hmV, by rw [HCS.out]; exact y5⟩
    show _ = act x V.heap.size
    simp only [act, HCS.out]
  case done =>
    rintro D ys V hD rfl ⟨⟨v, hv, hrow, -⟩, hB⟩ hK
    obtain ⟨A, cp, rfl, hcp, -⟩ := own_form hrow
    rw [List.length_finRange] at hrow hv hcp
    have hall := cutP_all l
    rw [hl] at hall
    rw [hall] at hrow
    clear hall
    have hvc := hv.cell
    have HV := Lib.hid (And.intro hrow (And.intro hB hK))
    clear hrow hB hK hv hl
    gi_wp2
    refine ⟨by simp, .inl ⟨_, _, rfl, run_takeDeferred HV.out.2.2, ?_⟩⟩
    obtain ⟨hrow, hB, hK⟩ := HV.out
    refine ⟨_, results_tmp rfl _ _ _, A, cp, rfl, ?_, ?_⟩
    · exact own_base (ownsRow_putObj hrow _ hK rfl) (by omega)
    · have h1 : Below w.heap.size w V := hBW.trans (hB.below (by omega) (fun k e => by omega))
      exact h1.trans (belowK_b (w := w) (Nat.le_refl _) V D _ (.deferred none) (by omega) hK rfl rfl)
  case body =>
    rintro l0 pre x a' V ⟨⟨v, hv, hrow, -⟩, hB⟩ ⟨Bx, rfl, hBx, bX⟩ hlt hmV
    obtain ⟨Av, cv, rfl, -⟩ := own_form hrow
    have hxi := bk_info (blkAt_len l x.1)
    have hone := oneCell_bvs (blkAt l x.1)
    have hsn := cutP_snoc l pre x
    have hkl : (bvs (blkAt l x.1)).length = 128 := by rw [bvs_len]; exact blkAt_len l x.1
    obtain ⟨cl, hcl⟩ : ∃ c, (bvs (blkAt l x.1)) = c := ⟨_, rfl⟩
    rw [hcl] at hxi hone hsn hkl bX
    simp only [act, hcl]
    have hcn : cutN n ≤ 1000 := by unfold cutN; omega
    obtain ⟨A', c', w1, hrun, hown', hgrow, _⟩ := run_app (P := Try.prog) (V.alloc (.cells cl.toArray 40)) (ty := 23) (t := 23) Try.underlying23 elemB (hrow.alloc _) (Sl.new (n := 1) (heap_alloc_new _ _) (by simpa using hkl)) (c := 1) (by simpa using hone) (by simp only [maxLen]; omega) (by omega) (by simp; omega)
    obtain ⟨hv1, hv2, hr2, hk2, hb2⟩ := box_append (W := V) hv (by omega) hrow hmV hown' hgrow
    have hvc := hv.cell
    have hc1 := hv1.cell
    have hf1 := hv1.frozen
    have hbs := run_slice1 (P := Try.prog) (t := 23) blkZ Try.underlying23 (by rw [List.size_toArray, bvs_len, zblk_len]) (by omega) (by omega) cl hkl V
    have hrb := range_blk bX
    have hxl : (Try.prog.info? 40).map (·.size) = some cl.length := by rw [hkl]; exact bk_size
    have HR := Lib.hid (And.intro hv2 (And.intro hr2 (And.intro hk2 (And.intro hb2 (And.intro hB hsn)))))
    clear hv2 hr2 hk2 hb2 hv1 hown' hgrow hrow hv hB hsn hBX1 hr1 bS
    gi_wp2_with (first
      | (refine wpListIn_val (o := ⟨some 9, _, _, _, _, _⟩) (v := .agg cl.toArray) (w' := V) rfl (fun c e => by cases e) rfl (by refine exec_load_row (x := .tmp 5) ?_ ?_ hrb Try.underlying40 ?_ hxl <;> rfl) ?_)
      | (refine wpListIn_val (o := ⟨some 10, _, _, _, _, _⟩) (v := .slice (some ⟨V.heap.size, 0, none⟩) 1 1) (w' := V.alloc (.cells cl.toArray 40)) rfl (fun c e => by cases e) rfl (by refine exec_slice1 (x := .tmp 9) ?_ ?_ hbs <;> rfl) ?_)
      | fail)
    obtain ⟨hv2, hr2, hk2, hb2, hB, hsn⟩ := HR.out
    refine ⟨hk2.from _, hb2, ⟨⟨_, hv2, ?_⟩, hB.trans (but_less hb2 (by omega))⟩⟩
    rw [List.length_append, hsn]
    exact hr2
theorem collect_any {BX b o cap n : Nat} {l : List UInt8} {w : World} (hl : l.length = n) (hc : n ≤ 100000) (hcap : n ≤ cap) (hm : cap ≤ maxLen) (hbx : BX < w.heap.size) (hb : b < w.heap.size)
    (hBX : w.cell? ⟨BX, 0, none⟩ = some (.slice (some ⟨b, o, none⟩) n cap)) (hr : w.rangeAt b o (bvs l)) :
    Calls Try.prog 36 #[.func (.func 52) #[] #[.pointer (some ⟨BX, 0, none⟩)]] w fun e w' =>
      ∃ A c, e = .returned (.slice A (cutN n) c) ∧ w'.ownsRow w.heap.size 40 128 (.slice A (cutN n) c) (cutN n) (bsv (cutB l)) ∧ Below w.heap.size w w' := by
  have H := append_seq hl hc hcap hm hbx hb hBX hr
  clear hr hBX hl
  go_enter Try.func36, Try.ntmps36
  go_wp2_with fail
  refine Calls.mono H ?_
  rintro e w' ⟨A, c, rfl, h1, h2⟩
  have H1 := Lib.hid (And.intro h1 h2)
  clear H h1 h2
  go_wp2_with fail
  go_ret
  exact ⟨_, _, rfl, H1.out.1, H1.out.2⟩
theorem own_setRow {w : World} {base g : Nat} {e : TypeId} {size n : Nat} {v : Value} {xs : List Value} (h : w.ownsRow base e size v n xs) (hne : ∀ k, v.ownBlock = some k → k ≠ g) (cs : Array Value) : (w.setRow g cs).ownsRow base e size v n xs := by
  refine ⟨h.1, ?_⟩
  rcases h.2 with h | ⟨k, cap, cur, rfl, h2, h3, h4⟩
  · exact .inl h
  · exact .inr ⟨k, cap, cur, rfl, h2, (setRow_other w g k cs (hne k rfl)).trans h3, h4⟩
end Go.Proofs.Ythmjkgpfnpdddaa
