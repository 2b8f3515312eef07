/- codexlaw19.Own: lines of their own. -/
import Derived.Test.YtiffcdeagckgmaaDoorShLines
import Derived.Test.YtiffcdeagckgmaaDoorAp
namespace Go.Proofs.YtiffcdeagckgmaaDoor
set_option linter.unusedSimpArgs false
set_option linter.unusedVariables false
open Go.RowKit Go.ChangeShapes Go.WideShapes Go.Sort

theorem lns_append (a b : List LN) : lns (a ++ b) = lns a ++ lns b := by simp [lns]
theorem one_lns {l : List LN} (h : ∀ x ∈ l, x.One) : ∀ u ∈ lns l, u.oneCell' = true := by
  intro u hu
  obtain ⟨x, hx, hu⟩ := List.mem_flatMap.1 hu
  simp only [LN.cells, List.mem_cons, List.mem_nil_iff, or_false] at hu
  rcases hu with rfl | rfl | rfl | rfl | rfl
  · rfl
  · rfl
  · rfl
  · rfl
  · exact h x hx
theorem elemLn : Elem Tryd.prog 45 5 40 := elem_of (z := .agg #[.int .i64 0, .bool false, .bool false, .bool false, .slice none 0 0]) (by kernel_rfl) (by simp [Value.cells]) (by omega)
theorem own_ln {w : World} {base : Nat} {A : Option Addr} {n c : Nat} {l : List LN} (h : w.ownsRow base 45 5 (.slice A n c) n (lns l)) (hl : l.length = n) (hw : ∀ x ∈ l, -9223372036854775808 ≤ x.kind ∧ x.kind ≤ 9223372036854775807) : LnAt w w.heap.size A n c l := by
  obtain ⟨A', c', e, hc, -⟩ := own_form h
  cases e
  exact ⟨hl, Sl.of_own h, hc, hw⟩
theorem elemPc : Elem Tryd.prog 47 2 24 := elem_of (z := .agg #[.int .i64 0, .string ⟨#[]⟩]) (by kernel_rfl) (by simp [Value.cells]) (by omega)
theorem hs0p (W : World) : (Instr.buildSlice 43 0 #[]).run Tryd.prog W = .ok (.slice (some ⟨W.heap.size, 0, none⟩) 0 0) (W.alloc (.cells #[] 47)) := by
  simp only [Instr.buildSlice]
  go_simp
theorem PcAt.grown {w w' : World} {A : Option Addr} {n c : Nat} {l : List PC} {row : Option Nat} (h : PcAt w w.heap.size A n c l) (hg : w.grownBy w' row) (hf : ∀ b o i, A = some ⟨b, o, i⟩ → row ≠ some b) : PcAt w' w'.heap.size A n c l := by
  refine ⟨h.wide, h.len, ⟨h.sl.len, fun h0 => ?_⟩, h.cap, h.most⟩
  obtain ⟨b, o, e, hlt, hr⟩ := h.sl.at_ h0
  refine ⟨b, o, e, Nat.lt_of_lt_of_le hlt hg.size, fun j v hj => ?_⟩
  exact (World.cell?_of_block (a := ⟨b, o + j, none⟩) (hg.block b hlt (fun e2 => hf b o none e e2.symm))).trans (hr j v hj)
/-- pieces of lines, none of them in the block row -/
def PcsFar (w : World) (row : Option Nat) (l : List (LN × List PC)) : Prop := ∀ r ∈ l, ∃ A n c, r.1.pv = .slice A n c ∧ PcAt w w.heap.size A n c r.2 ∧ ∀ b o i, A = some ⟨b, o, i⟩ → row ≠ some b ∧ b < w.heap.size
theorem PcsFar.nxt {w w' : World} {row : Option Nat} {l : List (LN × List PC)} (h : PcsFar w row l) (hb : Below w.heap.size w w') : PcsFar w' row l := fun r hr => by
  obtain ⟨A, n, c, h1, h2, h3⟩ := h r hr
  exact ⟨A, n, c, h1, h2.nxt hb, fun b o i e => ⟨(h3 b o i e).1, by have := (h3 b o i e).2; have := hb.size; omega⟩⟩
theorem PcsFar.grown {w w' : World} {row row' : Option Nat} {l : List (LN × List PC)} (h : PcsFar w row l) (hg : w.grownBy w' row) (hat : row' = row ∨ row' = some w.heap.size) : PcsFar w' row' l := fun r hr => by
  obtain ⟨A, n, c, h1, h2, h3⟩ := h r hr
  refine ⟨A, n, c, h1, h2.grown hg (fun b o i e => (h3 b o i e).1), fun b o i e => ⟨?_, by have := (h3 b o i e).2; have := hg.size; omega⟩⟩
  rcases hat with rfl | rfl
  · exact (h3 b o i e).1
  · intro e2
    have : w.heap.size = b := by simpa using e2
    have := (h3 b o i e).2
    omega
theorem pcs_snoc {w : World} {row : Option Nat} {l : List (LN × List PC)} {r : LN × List PC} (h : PcsFar w row l) {A : Option Addr} {n c : Nat} (h1 : r.1.pv = .slice A n c) (h2 : PcAt w w.heap.size A n c r.2) (h3 : ∀ b o i, A = some ⟨b, o, i⟩ → row ≠ some b ∧ b < w.heap.size) : PcsFar w row (l ++ [r]) := fun s hs => by
  rcases List.mem_append.1 hs with hs | hs
  · exact h s hs
  · rw [List.mem_singleton.1 hs]; exact ⟨A, n, c, h1, h2, h3⟩
theorem wpList_slice0 {P : Program} {ops : Array Oper} {rest : List Oper} {o : Oper} {a : Act} {w w' : World} {Q : Exit → Act → World → Prop} (hgd : o.guard = none) (t : TypeId) (k : Nat) (parts : Array (Nat × Operand)) (ho : o.op = .buildSlice t k parts) {v : Value}
    (hrun : (Instr.buildSlice t k (parts.map fun (i, x) => (i, a.eval x))).run P w = .ok v w') (h : wpList P ops Q rest (a.put o.dst v) w') : wpList P ops Q (o :: rest) a w :=
  wpList_plain hgd fun _ hK => by
    unfold Oper.wp execOp
    simp only [ho, Sem.run_bind, hrun, Result.andThen_ok, Sem.run_pure]
    exact hK _ _ h
def OwnP (w : World) (n : Nat) (l : List (LN × List PC)) (e : Ending) (w' : World) : Prop := ∃ A c l', e = .returned (.slice A n c) ∧ RnAt w' w'.heap.size A n c l' ∧ RSame l' l ∧ Below w.heap.size w w'
set_option maxHeartbeats 16000000 in
set_option maxRecDepth 100000 in
theorem own_lines {A : Option Addr} {n c : Nat} {l : List (LN × List PC)} (w : World) (hl : RnAt w w.heap.size A n c l) (hn : n ≤ 1000000) (hp : ∀ r ∈ l, r.2.length ≤ 1000000) :
    Calls Tryd.prog 18 #[.slice A n c] w (OwnP w n l) := by
  have hln := hl.len
  have HL := Lib.hid (And.intro hl (And.intro hln hp))
  clear hl hln hp
  have hzE := lnZ
  obtain ⟨z, hz⟩ : ∃ z, (#[.int .i64 0, .bool false, .bool false, .bool false, .slice none 0 0] : Array Value) = z := ⟨_, rfl⟩
  have hz5 : z.size = 5 := by rw [← hz]; rfl
  rw [hz] at hzE
  clear hz
  go_enter Tryd.func18, Tryd.ntmps18
  go_wp2_with fail
  go_loopw [3, 4] (fun s3 s4 wr => ∃ (i : Nat) (A3 : Option Addr) (c3 : Nat), i ≤ n ∧ s3 = .slice A3 i c3 ∧ s4 = .int .i64 i ∧ Hid (∃ l', wr.ownsRow w.heap.size 45 5 (.slice A3 i c3) i (lns (lnsOf l')) ∧ Below w.heap.size w wr ∧ l'.length = i ∧ (∀ (k : Nat) (r s : LN × List PC), l'[k]? = some r → l[k]? = some s → SameR r s) ∧ PcsFar wr (Value.slice A3 i c3).ownBlock l')) (fun _ i _ => n - (intOf i).toNat)
  case atStart => exact ⟨0, none, 0, by omega, rfl, rfl, Lib.hid ⟨[], World.ownsRow_nil _ _ _ _, Below.refl _ _, rfl, fun k r s h => by simp at h, fun r hr => by cases hr⟩⟩
  case round =>
    obtain ⟨i, A3, c3, hi, rfl, rfl, HI⟩ := hrel
    by_cases hin : i < n
    · have hin' : (i : Int) < (n : Int) := by omega
      have hi0 : (0 : Int) ≤ (i : Int) := by omega
      have g1 : IntKind.i64.wrap ((i : Int) + 1) = ((i + 1 : Nat) : Int) := by rw [wrap_small _ (by omega) (by omega)]; omega
      obtain ⟨l', hown, hb, hlen, hsame, hfar⟩ := HI.out
      obtain ⟨⟨x, px⟩, hx⟩ : ∃ x, l[i]? = some x := ⟨_, List.getElem?_eq_getElem (by rw [HL.out.2.1]; exact hin)⟩
      have hpl := HL.out.2.2 _ (List.mem_of_getElem? hx)
      obtain ⟨b, o, A1, n1, c1, rfl, hbB, hxr, hpv, hpc⟩ := HL.out.1.entry hx
      simp only at hxr hpv hpc hpl
      have hone : x.One := by unfold LN.One; rw [hpv]; rfl
      have hxr1 := bRange hb hbB hxr
      have hob : b < wr.heap.size := by have := hb.size; omega
      have hn1 := hpc.len
      have ix := ln_linfo x
      have jx := ln_info x
      have ox := one_ln hone
      have hzs : z.size = x.cells.toArray.size := by rw [hz5]; rfl
      obtain ⟨Y, hY, y5, bY⟩ := newRow wr z x.cells.toArray 45
      have HZ := Lib.hid (And.intro hown (And.intro hb (And.intro hlen (And.intro hsame (And.intro hfar (And.intro hx (And.intro hpc hpv)))))))
      clear hown hb hlen hsame hfar hx hpc HI
      go_upto_region 6 with (first
        | (refine wpList_load_mid rfl 45 (.tmp 14) rfl b (o + i * 5) rfl x.cells _ hxr1 Tryd.underlying45 rfl ix ?_)
        | (refine wpList_new rfl hzE rfl ?_)
        | (refine wpList_store_row rfl 45 (.tmp 5) (.tmp 15) rfl _ x.cells.toArray rfl rfl _ z (heap_alloc_new _ _) jx hzs ox ?_)
        | fail)
      try rw [hY]
      clear hY hxr1 ix jx ox hzs
      obtain ⟨hown, hb, hlen, hsame, hfar, hx, hpc, hpv⟩ := HZ.out
      obtain ⟨e, he⟩ : ∃ q, wr.heap.size = q := ⟨_, rfl⟩
      have hbrY := bY
      rw [he] at y5 bY
      rw [he]
      have k4 : Y.cell? ⟨e, 4, none⟩ = some x.pv := blk_cell y5 rfl
      rw [hpv] at k4
      have heY : e < Y.heap.size := (Array.getElem?_eq_some_iff.1 y5).1
      have hpcY := hpc.nxt (bNext hb hbrY)
      refine wp_region_lit ?_
      refine wpList_slice0 rfl 43 0 #[] rfl (by simp only [List.map_toArray, List.map_nil]; exact hs0p Y) ?_
      (try simp only [Act.put, List.setIfInBounds_toArray, List.set_cons_zero, List.set_cons_succ])
      have hS0 : Below Y.heap.size Y (Y.alloc (.cells #[] 47)) := (Below.refl _ _).alloc (Nat.le_refl _) _
      have k4a := (hS0.cell (p := ⟨e, 4, none⟩) heY).trans k4
      iterate 6 (first | go_guarded | go_step)
      (try simp only [Act.put, List.setIfInBounds_toArray, List.set_cons_zero, List.set_cons_succ])
      refine wpList_app _ rfl (.tmp 16) (.tmp 18) 43 rfl (base := Y.heap.size) Tryd.underlying43 elemPc rfl (own_none' Y Y.heap.size 47 2 (Nat.le_refl _)) rfl (hpcY.sl.below hS0) (one_pcs _) (by simp only [maxLen]; omega) (by omega) hS0.size ?_
      intro A19 c19 w19 hown19 hg19 hb19 hat19
      simp only [Nat.zero_add, List.nil_append] at hown19 ⊢
      have hY19 := hS0.trans hb19
      (try simp only [Act.put, List.setIfInBounds_toArray, List.set_cons_zero, List.set_cons_succ])
      have r5 := bBlk hY19 heY y5
      have k4b : w19.cell? ⟨e, 4, none⟩ = some (.slice A1 n1 c1) := by rw [← hpv]; exact blk_cell r5 rfl
      have f4b := blk_frozen r5 4
      have he19 : e < w19.heap.size := (Array.getElem?_eq_some_iff.1 r5).1
      have HW := Lib.hid (And.intro hown (And.intro hb (And.intro hlen (And.intro hsame (And.intro hfar (And.intro hx (And.intro hpc (And.intro hpv (And.intro hbrY (And.intro hown19 (And.intro hY19 r5)))))))))))
      clear hown hb hlen hsame hfar hx hpc hpv hbrY hown19 hg19 hb19 hat19 hY19 r5 HZ k4 k4a hS0 hpcY y5 bY
      go_upto_region 7 with (fail)
      obtain ⟨U, hU⟩ : ∃ q, w19.setCell ⟨e, 4, none⟩ (.slice A19 n1 c19) = q := ⟨_, rfl⟩
      rw [hU]
      obtain ⟨hown, hb, hlen, hsame, hfar, hx, hpc, hpv, hbrY, hown19, hY19, r5⟩ := HW.out
      obtain ⟨x', hx'⟩ : ∃ q : LN, { x with pv := .slice A19 n1 c19 } = q := ⟨_, rfl⟩
      have u5 : U.heap[e]? = some (.cells x'.cells.toArray 45) := by rw [← hU, ← hx']; exact blk_set r5 4 _
      have hbU : Below wr.heap.size wr U := by rw [← hU]; exact (bNext hbrY hY19).setCell (p := ⟨e, 4, none⟩) (by show _ ≤ e; omega) _
      have hownU := own_below hown hbU
      have hlt3 := hown.lt
      have hfarU := hfar.nxt hbU
      have hbwU := bNext hb hbU
      have hge19 := own_ge hown19
      have hlt19 := hown19.lt
      obtain ⟨_, _, e19, hcap19, hm19⟩ := own_form hown19
      cases e19
      have hpcW : PcAt w19 w19.heap.size A19 n1 c19 px := ⟨hpc.wide, hn1, Sl.of_own hown19, hcap19, hm19⟩
      have hpcU : PcAt U U.heap.size A19 n1 c19 px := by
        refine ⟨hpcW.wide, hpcW.len, ⟨hpcW.sl.len, fun h0 => ?_⟩, hpcW.cap, hpcW.most⟩
        obtain ⟨b', o', e', hlt, hr⟩ := hpcW.sl.at_ h0
        have hne : b' ≠ e := by have := hge19 b' (by rw [e']; rfl); omega
        refine ⟨b', o', e', by rw [← hU, World.size_setCell]; exact hlt, fun j v hj => ?_⟩
        rw [← hU]
        exact (World.cell?_of_block (a := ⟨b', o' + j, none⟩) (Below.heap_setCell _ ⟨e, 4, none⟩ _ b' hne)).trans (hr j v hj)
      have hfar19 : ∀ b o i', A19 = some ⟨b, o, i'⟩ → (Value.slice A3 i c3).ownBlock ≠ some b ∧ b < U.heap.size := fun b' o' i' e' => by
        have h1 := hge19 b' (by rw [e']; rfl)
        have h2 := (hlt19 b' (by rw [e']; rfl)).2
        refine ⟨fun h3 => ?_, by rw [← hU, World.size_setCell]; exact h2⟩
        have h4 := (hlt3 b' h3).2
        have := hbrY.size
        omega
      have hone' : x'.One := by unfold LN.One; rw [← hx']; rfl
      have hxc1 := one_ln hone'
      have hxc2 : ∀ u ∈ x'.cells, u.oneCell' = true := fun u hu => by
        have := one_lns (l := [x']) (fun y hy => by rw [List.mem_singleton.1 hy]; exact hone') u
        exact this (by simpa [lns] using hu)
      have hsm : SameR (x', px) (x, px) := by rw [← hx']; exact ⟨rfl, rfl, rfl, rfl, rfl⟩
      have hpv' : x'.pv = .slice A19 n1 c19 := by rw [← hx']
      have jx' := ln_info x'
      have hs1 := fun W => run_slice1 (P := Tryd.prog) (t := 22) lnZ Tryd.underlying22 (s := 5) rfl (by omega) (by omega) x'.cells rfl W
      have HQ := Lib.hid (And.intro hlen (And.intro hsame (And.intro hx (And.intro hpv' hsm))))
      clear hx' hown hb hlen hsame hfar hx hpc hpv hbrY hown19 hY19 r5 hU hbU hlt3 hge19 hlt19 hcap19 hm19 hpcW hone' hsm hpv' HW k4b f4b he19 heY
      obtain ⟨xc, hxc⟩ : ∃ q, x'.cells = q := ⟨_, rfl⟩
      have hxcl : xc.length = 5 := by rw [← hxc]; rfl
      rw [hxc] at u5 hxc1 hxc2 jx'
      simp only [hxc] at hs1
      refine wp_region_lit ?_
      iterate 3 (first | go_guarded | go_step)
      refine wpList_load_row rfl 45 (.tmp 5) rfl _ rfl _ xc.toArray (0, 0) _ u5 Tryd.underlying45 rfl jx' ?_
      (try simp only [Act.put, List.setIfInBounds_toArray, List.set_cons_zero, List.set_cons_succ])
      refine wpList_slice0 rfl 22 1 #[(0, .tmp 22)] rfl (by simp only [List.map_toArray, List.map_cons, List.map_nil]; exact hs1 U) ?_
      (try simp only [Act.put, List.setIfInBounds_toArray, List.set_cons_zero, List.set_cons_succ])
      have hbA : Below U.heap.size U (U.alloc (.cells xc.toArray 45)) := (Below.refl _ _).alloc (Nat.le_refl _) _
      have hwU := hbwU.size
      refine wpList_app _ rfl (.tmp 21) (.tmp 23) 22 rfl (base := w.heap.size) Tryd.underlying22 elemLn rfl (hownU.alloc _) rfl (Sl.new (n := 1) (heap_alloc_new _ _) (by simpa using hxcl)) hxc2 (by simp only [maxLen]; omega) (by omega) (by have := hbA.size; omega) ?_
      intro A24 c24 w24 hown24 hg24 hb24 hat24
      have hfar24 : PcsFar w24 (Value.slice A24 (i + 1) c24).ownBlock (l' ++ [(x', px)]) := by
        refine PcsFar.grown (w := U.alloc (.cells xc.toArray 45)) ?_ hg24 hat24
        exact (pcs_snoc hfarU (r := (x', px)) HQ.out.2.2.2.1 hpcU hfar19).nxt hbA
      have hbw24 := (bNext hbwU hbA).trans hb24
      have hown24' : w24.ownsRow w.heap.size 45 5 (.slice A24 (i + 1) c24) (i + 1) (lns (lnsOf (l' ++ [(x', px)]))) := by
        have e1 : lns (lnsOf (l' ++ [(x', px)])) = lns (lnsOf l') ++ xc := by
          unfold lnsOf; rw [List.map_append, lns_append, ← hxc]; simp [lns]
        rw [e1]
        exact hown24
      have HR := Lib.hid (And.intro hown24' (And.intro hbw24 hfar24))
      clear hown24 hown24' hg24 hb24 hat24 hfar24 hbw24 hbA hwU hownU hfarU hbwU hpcU hfar19 u5 hxc1 hxc2 jx' hs1
      (try simp only [Act.put, List.setIfInBounds_toArray, List.set_cons_zero, List.set_cons_succ])
      go_wp2_with fail
      go_roundw
      case rel =>
        refine ⟨i + 1, A24, c24, by omega, rfl, by go_num, Lib.hid ⟨l' ++ [(x', px)], HR.out.1, HR.out.2.1, by rw [List.length_append, HQ.out.1]; rfl, fun k r s h1 h2 => ?_, HR.out.2.2⟩⟩
        rcases Nat.lt_or_ge k i with h3 | h3
        · rw [List.getElem?_append_left (by rw [HQ.out.1]; exact h3)] at h1
          exact HQ.out.2.1 k r s h1 h2
        · rw [List.getElem?_append_right (by rw [HQ.out.1]; exact h3), HQ.out.1] at h1
          have hk : k - i = 0 := by
            rcases Nat.eq_zero_or_pos (k - i) with h4 | h4
            · exact h4
            · rw [List.getElem?_eq_none (by simp; omega)] at h1; cases h1
          obtain rfl : k = i := by omega
          rw [hk] at h1
          cases h1
          rw [HQ.out.2.2.1] at h2
          cases h2
          exact HQ.out.2.2.2.2
      case measure => simp [intOf]; omega
    · obtain rfl : i = n := by omega
      have hin' : ¬ (i : Int) < (i : Int) := by omega
      go_wp2_with fail
      go_ret
      obtain ⟨l', hown, hb, hlen, hsame, hfar⟩ := HI.out
      refine ⟨A3, c3, l', rfl, ⟨own_ln hown (by unfold lnsOf; rw [List.length_map, hlen]) (fun x hx => ?_), fun r hr => ?_⟩, ⟨by rw [hlen, HL.out.2.1], hsame⟩, hb⟩
      · unfold lnsOf at hx
        obtain ⟨r, hr, rfl⟩ := List.mem_map.1 hx
        obtain ⟨k, hk, rfl⟩ := List.getElem_of_mem hr
        have hk2 : k < l.length := by rw [HL.out.2.1]; omega
        have := hsame k _ _ (List.getElem?_eq_getElem hk) (List.getElem?_eq_getElem hk2)
        rw [this.kind]
        exact HL.out.1.ln.wide _ (by unfold lnsOf; exact List.mem_map.2 ⟨_, List.getElem_mem hk2, rfl⟩)
      · obtain ⟨A', n', c', h1, h2, -⟩ := hfar r hr
        exact ⟨A', n', c', h1, h2⟩
end Go.Proofs.YtiffcdeagckgmaaDoor
