/- The walk over the reference's Total (s10/bkrtot.py writes it). -/
import Derived.Test.YtnojikbecohhfaaBkRRep
import Derived.Test.YtnojikbecohhfaaBkLines
import Derived.Laws.Rows
namespace Go.Proofs.Ytnojikbecohhfaa
set_option linter.unusedSimpArgs false
set_option linter.unusedVariables false
open Go.RowKit Go.Sort

def suC (t o : Int) (k m : Bool) : Array Value := #[.int .i64 t, .int .i64 o, .bool k, .bool m]
def suz : Array Value := suC 0 0 false false
theorem suZ : ZeroIs Try.prog 32 suz := by unfold ZeroIs; kernel_rfl
theorem su_info (t o : Int) (k m : Bool) : (Try.prog.info? 32).map (·.size) = some (suC t o k m).size := by
  show _ = some 4
  kernel_rfl
theorem su_one (t o : Int) (k m : Bool) : (suC t o k m).all (·.oneCell') = true := by simp [suC, Value.oneCell']
theorem built_suz : Try.prog.built 32 [] = some suz := by kernel_rfl
theorem built_su1 : Try.prog.built 32 [(2, .bool true), (3, .bool true)] = some (suC 0 0 true true) := by kernel_rfl
def suV : Option (WY × Bool) → Array Value
  | none => suz
  | some p => suC p.1.total p.1.over true p.2
theorem pl_find {l : List It} {f t : Int} {p : Nat} (hp : ∀ j : Nat, j < p → ∀ v, (plcs l)[j]? = some v → v ≤ f ∨ v < t) (hf : f < t) (ht : t ∈ plcs l) : ∃ v, (plcs l)[p]? = some v ∧ v ≤ t := by
  obtain ⟨q, hq, hqt⟩ := List.getElem_of_mem ht
  have hqe : (plcs l)[q]? = some t := by rw [List.getElem?_eq_getElem hq, hqt]
  have hpq : p ≤ q := by
    rcases Nat.lt_or_ge q p with h | h
    · rcases hp q h t hqe with h2 | h2 <;> omega
    · exact h
  refine ⟨_, List.getElem?_eq_getElem (by omega), ?_⟩
  rcases Nat.lt_or_ge p q with h | h
  · have := List.pairwise_iff_getElem.1 (plcs_sorted l) p q (by omega) hq h
    omega
  · obtain rfl : p = q := by omega
    rw [hqt]; exact Int.le_refl _
attribute [-go_sem] Builtin.append_
set_option maxHeartbeats 32000000 in
set_option maxRecDepth 100000 in
theorem rtotal_any {A B : Option Addr} {n c m c' : Nat} {l : List It} {bs : List Int} (sw sh st sc si : Int) (hn : n ≤ 1000000) (hm : m ≤ 1000000) (w : World) (h : Sl w w.heap.size 6 A n (encs l)) (hb : IvAt w w.heap.size B m c' bs) :
    Calls Try.prog 11 #[.slice A n c, .agg #[.int .i64 sw, .int .i64 sh, .int .i64 st, .int .i64 sc, .int .i64 si], .slice B m c'] w (Ret w (.agg (suV (walkP l (cutS sw) (cutS st) bs)))) := by
  have hl := its_len h
  have hbl := hb.len
  have hrl := fun (f t : Int) (U : World) (hb : Below w.heap.size w U) => rLine_any (c := c) sw sh st sc si f t hn U (h.next hb)
  obtain ⟨wd, hwd⟩ : ∃ q, cutS sw = q := ⟨_, rfl⟩
  obtain ⟨tl, htl⟩ : ∃ q, cutS st = q := ⟨_, rfl⟩
  simp only [hwd, htl] at hrl ⊢
  have HRL := Lib.hid hrl
  clear hrl hwd htl
  obtain ⟨O, hO⟩ : ∃ q, walkP l wd tl bs = q := ⟨_, rfl⟩
  rw [hO]
  have HO := Lib.hid hO
  clear hO
  obtain ⟨R, hR⟩ : ∃ q, suV O = q := ⟨_, rfl⟩
  rw [hR]
  have HR := Lib.hid hR
  clear hR
  have hcz := coZ
  have hsz := suZ
  obtain ⟨W1, hW1⟩ : ∃ q, w.alloc (.cells #[.int .i64 sw, .int .i64 sh, .int .i64 st, .int .i64 sc, .int .i64 si] 24) = q := ⟨_, rfl⟩
  have y4a : W1.heap[w.heap.size]? = some (.cells #[.int .i64 sw, .int .i64 sh, .int .i64 st, .int .i64 sc, .int .i64 si] 24) := by rw [← hW1]; exact heap_alloc_new _ _
  have hb1 : Below w.heap.size w W1 := by rw [← hW1]; exact (Below.refl _ _).alloc (Nat.le_refl _) _
  have hz1 : W1.heap.size = w.heap.size + 1 := by rw [← hW1]; simp
  obtain ⟨X, hX⟩ : ∃ q, W1.alloc (.cells suz 32) = q := ⟨_, rfl⟩
  have y6 : X.heap[W1.heap.size]? = some (.cells suz 32) := by rw [← hX]; exact heap_alloc_new _ _
  have hb2 : Below W1.heap.size W1 X := by rw [← hX]; exact (Below.refl _ _).alloc (Nat.le_refl _) _
  have y4 := bBlk hb2 (Array.getElem?_eq_some_iff.1 y4a).1 y4a
  have hBX := bNext hb1 hb2
  obtain ⟨b6, hb6⟩ : ∃ q, W1.heap.size = q := ⟨_, rfl⟩
  obtain ⟨b4, hb4⟩ : ∃ q, w.heap.size = q := ⟨_, rfl⟩
  have hb46 : w.heap.size ≤ b6 ∧ b4 < b6 := by omega
  rw [hb6] at y6
  rw [hb4] at y4
  have l4X := (Array.getElem?_eq_some_iff.1 y4).1
  have l6X := (Array.getElem?_eq_some_iff.1 y6).1
  have HX := Lib.hid (And.intro (h.next hBX) (And.intro hBX (And.intro y4 (And.intro y6 (And.intro (hb.nxt hBX) hl)))))
  clear h hb hb1 hb2 y4a y4 hBX hz1 hl
  go_enter Try.func11, Try.ntmps11
  go_upto_region 1 with (first | (refine wpList_new rfl hsz rfl ?_) | fail)
  try rw [hW1]
  try rw [hX]
  try rw [hb6]
  try rw [hb4]
  clear hW1 hX hb6 hsz
  by_cases h6 : 600 < n
  · have h6' : (600 : Int) < (n : Int) := by omega
    have hRz : R = suz := by
      rw [← HR.out, ← HO.out]
      unfold walkP
      rw [if_pos (.inl (by rw [HX.out.2.2.2.2.2]; exact h6))]
      rfl
    have HRZ := Lib.hid hRz.symm
    clear hRz
    go_upto_region 2 with (fail)
    refine wp_region_lit ?_
    refine wpList_built rfl 32 #[] rfl (cs := suz) (by simp only [List.map_toArray, List.map_cons, List.map_nil]; exact built_suz) ?_
    (try simp only [Act.put, List.setIfInBounds_toArray, List.set_cons_zero, List.set_cons_succ])
    refine wpList_store_row rfl 32 (.tmp 6) (.tmp 32) rfl _ suz rfl rfl _ suz y6 (su_info _ _ _ _) rfl (su_one _ _ _ _) ?_
    (try simp only [Act.put, List.setIfInBounds_toArray, List.set_cons_zero, List.set_cons_succ])
    go_wp2_with fail
    generalize hX9 : World.setRow _ _ _ = X9
    have b9 : X9.heap[b6]? = some (.cells suz 32) := by rw [← hX9]; exact setRow_heap _ _ _ _ _ _ y6
    have hBX : Below w.heap.size w X9 := by rw [← hX9]; exact bSetRow HX.out.2.1 hb46.1 _
    clear hX9
    refine bodyPost_ret (results_cell_row Try.results11 _ X9 b6 32 suz (0, 0) _ ?_ b9 Try.underlying32 rfl (su_info _ _ _ _)) rfl ?_
    · rfl
    exact Ret.mk (by (rw [← HRZ.out]) <;> rfl) hBX
  · have h6' : ¬ (600 : Int) < (n : Int) := by omega
    have hd6 : decide ((600 : Int) < (n : Int)) = false := decide_eq_false h6'
    by_cases hm0 : m = 0
    · subst hm0
      have hRz : R = suz := by
        rw [← HR.out, ← HO.out]
        unfold walkP
        rw [if_pos (.inr (by rw [List.eq_nil_of_length_eq_zero hbl]; simp))]
        rfl
      have HRZ := Lib.hid hRz.symm
      clear hRz
      go_upto_region 2 with (fail)
      refine wp_region_lit ?_
      refine wpList_built rfl 32 #[] rfl (cs := suz) (by simp only [List.map_toArray, List.map_cons, List.map_nil]; exact built_suz) ?_
      (try simp only [Act.put, List.setIfInBounds_toArray, List.set_cons_zero, List.set_cons_succ])
      refine wpList_store_row rfl 32 (.tmp 6) (.tmp 32) rfl _ suz rfl rfl _ suz y6 (su_info _ _ _ _) rfl (su_one _ _ _ _) ?_
      (try simp only [Act.put, List.setIfInBounds_toArray, List.set_cons_zero, List.set_cons_succ])
      go_wp2_with fail
      generalize hX9 : World.setRow _ _ _ = X9
      have b9 : X9.heap[b6]? = some (.cells suz 32) := by rw [← hX9]; exact setRow_heap _ _ _ _ _ _ y6
      have hBX : Below w.heap.size w X9 := by rw [← hX9]; exact bSetRow HX.out.2.1 hb46.1 _
      clear hX9
      refine bodyPost_ret (results_cell_row Try.results11 _ X9 b6 32 suz (0, 0) _ ?_ b9 Try.underlying32 rfl (su_info _ _ _ _)) rfl ?_
      · rfl
      exact Ret.mk (by (rw [← HRZ.out]) <;> rfl) hBX
    · have hm0' : ¬ (m : Int) = 0 := by omega
      have hmd : ((m : Int) == 0) = false := beq_eq_false_iff_ne.2 hm0'
      obtain ⟨lt, hlt⟩ : ∃ z, bs[m - 1]? = some z := ⟨_, List.getElem?_eq_getElem (by omega)⟩
      have hlast : bs.getLast? = some lt := by rw [List.getLast?_eq_getElem?, hbl]; exact hlt
      obtain ⟨bB, oB, hAB, lB, hcl⟩ := HX.out.2.2.2.2.1.entry hlt
      subst hAB
      have g1 : IntKind.i64.wrap ((m : Int) - 1) = ((m - 1 : Nat) : Int) := by rw [wrap_small _ (by omega) (by omega)]; omega
      have g2 : ((m - 1 : Nat) : Int) < (m : Int) := by omega
      have g3 : m - 1 < m := by omega
      have g4 : (0 : Int) ≤ ((m - 1 : Nat) : Int) := by omega
      have HLA := Lib.hid hlast
      clear hlast hlt
      by_cases hln : lt = (n : Int)
      rotate_left
      · have hlnd : (lt == (n : Int)) = false := beq_eq_false_iff_ne.2 hln
        have hRz : R = suz := by
          rw [← HR.out, ← HO.out]
          unfold walkP
          rw [if_pos (.inr (by rw [HLA.out, HX.out.2.2.2.2.2]; intro h; injection h with h; exact hln h))]
          rfl
        have HRZ := Lib.hid hRz.symm
        clear hRz
        go_upto_region 2 with (fail)
        refine wp_region_lit ?_
        refine wpList_built rfl 32 #[] rfl (cs := suz) (by simp only [List.map_toArray, List.map_cons, List.map_nil]; exact built_suz) ?_
        (try simp only [Act.put, List.setIfInBounds_toArray, List.set_cons_zero, List.set_cons_succ])
        refine wpList_store_row rfl 32 (.tmp 6) (.tmp 32) rfl _ suz rfl rfl _ suz y6 (su_info _ _ _ _) rfl (su_one _ _ _ _) ?_
        (try simp only [Act.put, List.setIfInBounds_toArray, List.set_cons_zero, List.set_cons_succ])
        go_wp2_with fail
        generalize hX9 : World.setRow _ _ _ = X9
        have b9 : X9.heap[b6]? = some (.cells suz 32) := by rw [← hX9]; exact setRow_heap _ _ _ _ _ _ y6
        have hBX : Below w.heap.size w X9 := by rw [← hX9]; exact bSetRow HX.out.2.1 hb46.1 _
        clear hX9
        refine bodyPost_ret (results_cell_row Try.results11 _ X9 b6 32 suz (0, 0) _ ?_ b9 Try.underlying32 rfl (su_info _ _ _ _)) rfl ?_
        · rfl
        exact Ret.mk (by (rw [← HRZ.out]) <;> rfl) hBX
      · subst hln
        have HST : Hid (stepW l wd tl (-1) wy0 true bs = O) := Lib.hid (by
          rw [← HO.out]
          unfold walkP
          rw [if_neg (by rintro (h | h); rw [HX.out.2.2.2.2.2] at h; omega; rw [HLA.out, HX.out.2.2.2.2.2] at h; exact h rfl)])
        have hbr := rbreaks_any (c := c) (by omega) HX.out.1
        go_upto_region 3 with (fail)
        go_wp2_with fail
        refine Calls.mono hbr ?_
        rintro e V ⟨AP, cP, rfl, hownP, hbV⟩
        clear hbr hcl y6
        obtain ⟨hXl, hBX, x4, x6, xB, hl⟩ := HX.out
        rw [ints_ivs] at hownP
        have hivP0 : IvN V b6 AP (brks l).length cP (plcs l) := IvN.own (Z := X) (by unfold plcs; rw [List.length_map]) hownP l6X (fun z hz => by have := plcs_rng hz; omega)
        have hivP := hivP0.iv
        obtain ⟨NP, hNP⟩ : ∃ q, (brks l).length = q := ⟨_, rfl⟩
        have hNP1 : NP ≤ 601 := by have h1 := brks_len l; have h2 := brksTo_len l l.length; omega
        rw [hNP] at hivP ⊢
        have hBV := bNext hBX hbV
        have v4 := bBlk hbV l4X x4
        have v6 := bBlk hbV l6X x6
        have vB := xB.nxt hbV
        have l4V := (Array.getElem?_eq_some_iff.1 v4).1
        have l6V := (Array.getElem?_eq_some_iff.1 v6).1
        obtain ⟨Z, hZ, y8, bZ⟩ := newRow V suz (suC 0 0 true true) 32
        have hszz := suZ
        go_upto_region 4 with (fail)
        refine wp_region_lit ?_
        refine wpList_built rfl 32 #[(2, .const (.bool true)), (3, .const (.bool true))] rfl (cs := suC 0 0 true true) (by simp only [List.map_toArray, List.map_cons, List.map_nil]; exact built_su1) ?_
        (try simp only [Act.put, List.setIfInBounds_toArray, List.set_cons_zero, List.set_cons_succ])
        refine wpList_new rfl hszz rfl ?_
        (try simp only [Act.put, List.setIfInBounds_toArray, List.set_cons_zero, List.set_cons_succ])
        refine wpList_store_row rfl 32 (.tmp 8) (.tmp 35) rfl _ (suC 0 0 true true) rfl rfl _ suz (heap_alloc_new _ _) (su_info _ _ _ _) rfl (su_one _ _ _ _) ?_
        (try simp only [Act.put, List.setIfInBounds_toArray, List.set_cons_zero, List.set_cons_succ])
        rw [hZ]
        have hBZ := bNext hBV bZ
        have z4 := bBlk bZ l4V v4
        have z6 := bBlk bZ l6V v6
        have zB := vB.nxt bZ
        have zP := hivP.nxt bZ
        obtain ⟨b8, hb8⟩ : ∃ q, V.heap.size = q := ⟨_, rfl⟩
        rw [hb8] at y8
        try rw [hb8]
        have hw8 : w.heap.size ≤ b8 := by have := hBV.size; omega
        have h68 : b6 < b8 ∧ b4 < b8 ∧ bB < b8 := by have := hbV.size; omega
        have hP8 : ∀ b o, AP = some ⟨b, o, none⟩ → b < b8 := fun b o e => by
          by_cases h0 : 0 < NP
          · obtain ⟨b', o', e', h1, -⟩ := hivP.sl.at_ h0
            rw [e'] at e; injection e with e; injection e with e _ _; omega
          · exfalso; have := brks_pos l; omega
        have HZ := Lib.hid (And.intro hBZ (And.intro z4 (And.intro z6 (And.intro zB (And.intro zP (And.intro hl (And.intro y8 hP8)))))))
        have l8Z := (Array.getElem?_eq_some_iff.1 y8).1
        clear hXl hBX x4 x6 xB hl hownP hbV hivP0 hivP hBV v4 v6 vB bZ hBZ z4 z6 zB zP hb8 HX hNP hZ y8 hszz l4X l6X l4V l6V lB hP8
        go_upto_region 7 with (fail)
        go_loopw [9, 10, 11] (fun s9 s10 s11 wr => ∃ (f : Int) (p i : Nat) (y : WY) (mb : Bool), s9 = .int .i64 f ∧ s10 = .int .i64 p ∧ s11 = .int .i64 i ∧ i ≤ m ∧ p ≤ NP ∧ ((0 ≤ y.total ∧ y.total ≤ 1000000000000000 * (i : Int)) ∧ 0 ≤ y.over ∧ y.over ≤ (i : Int) ∧ i ≤ 1000) ∧ b8 < wr.heap.size ∧
          Hid (Below b8 Z wr ∧ wr.heap[b8]? = some (.cells (suC y.total y.over true mb) 32) ∧ (∀ j : Nat, j < p → ∀ v, (plcs l)[j]? = some v → v ≤ f) ∧ stepW l wd tl f y mb (bs.drop i) = O ∧ (-1 ≤ f ∧ (i : Int) ≤ f + 1))) (fun _ _ i _ => m - (intOf i).toNat)
        case atStart => exact ⟨-1, 0, 0, wy0, true, rfl, rfl, rfl, by omega, by omega, by simp [wy0], l8Z, Lib.hid ⟨Below.refl _ _, HZ.out.2.2.2.2.2.2.1, fun j hj => absurd hj (by omega), by rw [List.drop_zero]; exact HST.out, by omega⟩⟩
        case round =>
          clear l8Z
          obtain ⟨f, p, i, y, mb, rfl, rfl, rfl, him, hpN, hyb, h8r, HI⟩ := hrel
          by_cases hilt : i < m
          rotate_left
          · obtain rfl : i = m := by omega
            have hii : ¬ (i : Int) < (i : Int) := by omega
            have hRs : Hid (suC y.total y.over true mb = R) := Lib.hid (by
              have := HI.out.2.2.2.1
              rw [List.drop_of_length_le (by omega), stepW] at this
              rw [← HR.out, ← this]
              rfl)
            have r8 := HI.out.2.1
            have r6 := bBlk HI.out.1 h68.1 HZ.out.2.2.1
            have hB := HZ.out.1.trans (HI.out.1.mono hw8)
            obtain ⟨cw, hcw⟩ : ∃ q, suC y.total y.over true mb = q := ⟨_, rfl⟩
            have hci : (Try.prog.info? 32).map (·.size) = some cw.size := by rw [← hcw]; exact su_info _ _ _ _
            have hcz2 : suz.size = cw.size := by rw [← hcw]; rfl
            have hco : cw.all (·.oneCell') = true := by rw [← hcw]; exact su_one _ _ _ _
            rw [hcw] at r8
            have HB := Lib.hid (And.intro hB hcw)
            clear hB hcw HI
            go_upto_region 21 with (fail)
            refine wp_region_lit ?_
            refine wpList_load_row rfl 32 (.tmp 8) rfl _ rfl _ cw (0, 0) _ r8 Try.underlying32 rfl hci ?_
            (try simp only [Act.put, List.setIfInBounds_toArray, List.set_cons_zero, List.set_cons_succ])
            refine wpList_store_row rfl 32 (.tmp 6) (.tmp 123) rfl _ cw rfl rfl _ suz r6 hci hcz2 hco ?_
            (try simp only [Act.put, List.setIfInBounds_toArray, List.set_cons_zero, List.set_cons_succ])
            go_wp2_with fail
            generalize hX9 : World.setRow _ _ _ = X9
            have b9 : X9.heap[b6]? = some (.cells cw 32) := by rw [← hX9]; exact setRow_heap _ _ _ _ _ _ r6
            have hBX : Below w.heap.size w X9 := by rw [← hX9]; exact bSetRow HB.out.1 hb46.1 _
            clear hX9
            refine bodyPost_ret (results_cell_row Try.results11 _ X9 b6 32 cw (0, 0) _ ?_ b9 Try.underlying32 rfl hci) rfl ?_
            · rfl
            exact Ret.mk (by rw [← hRs.out, HB.out.2]) hBX
          · have hii : (i : Int) < (m : Int) := by omega
            have hi0 : (0 : Int) ≤ (i : Int) := by omega
            obtain ⟨t, ht⟩ : ∃ t, bs[i]? = some t := ⟨_, List.getElem?_eq_getElem (by omega)⟩
            have hst := HI.out.2.2.2.1
            rw [drop_at ht, stepW] at hst
            have hct : wr.cell? ⟨bB, oB + i, none⟩ = some (.int .i64 t) := by
              obtain ⟨b', o', e', -, h1⟩ := HZ.out.2.2.2.1.entry ht
              cases e'
              exact (HI.out.1.cell (p := ⟨bB, oB + i, none⟩) h68.2.2).trans h1
            have htr : -9223372036854775808 ≤ t ∧ t ≤ 9223372036854775807 := HZ.out.2.2.2.1.wide t (List.mem_of_getElem? ht)
            have lBr : bB < wr.heap.size := by omega
            have HS := Lib.hid hst
            clear hst ht
            obtain ⟨bP, oP, hAP, hPc⟩ : ∃ b o, AP = some ⟨b, o, none⟩ ∧ ∀ (j : Nat) v, (plcs l)[j]? = some v → wr.cell? ⟨b, o + j, none⟩ = some (.int .i64 v) := by
              have h0 : 0 < NP := by have h1 := brks_pos l; have h2 := HZ.out.2.2.2.2.1.len; unfold plcs at h2; rw [List.length_map] at h2; omega
              obtain ⟨b', o', e', -, -⟩ := HZ.out.2.2.2.2.1.sl.at_ h0
              refine ⟨b', o', e', fun j v hv => ?_⟩
              obtain ⟨b1, o1, e1, -, h1⟩ := HZ.out.2.2.2.2.1.entry hv
              rw [e'] at e1
              cases e1
              exact (HI.out.1.cell (p := ⟨b', o' + j, none⟩) (HZ.out.2.2.2.2.2.2.2 b' o' e')).trans h1
            have lPr : bP < wr.heap.size := by have := HZ.out.2.2.2.2.2.2.2 bP oP hAP; omega
            subst hAP
            have HPC := Lib.hid hPc
            clear hPc
            have hPlen : (plcs l).length = NP := HZ.out.2.2.2.2.1.len
            have HPL := Lib.hid hPlen
            clear hPlen
            go_upto_region 9 with (fail)
            rename World => wo
            go_loopw [10] (fun s10 wx => ∃ p2 : Nat, s10 = .int .i64 p2 ∧ p2 ≤ NP ∧ Hid (Below wo.heap.size wo wx ∧ (∀ j : Nat, j < p2 → ∀ v, (plcs l)[j]? = some v → v ≤ f ∨ v < t))) (fun s10 _ => NP - (intOf s10).toNat)
            case atStart => exact ⟨p, rfl, hpN, Lib.hid ⟨Below.refl _ _, fun j hj v hv => .inl (HI.out.2.2.1 j hj v hv)⟩⟩
            case round =>
              obtain ⟨p2, rfl, hp2, HQ⟩ := hrel
              rename World => wx
              have ctx := (HQ.out.1.cell (p := ⟨bB, oB + i, none⟩) lBr).trans hct
              have lBx : bB < wx.heap.size := by have := HQ.out.1.size; omega
              have lPx : bP < wx.heap.size := by have := HQ.out.1.size; omega
              have hp0 : (0 : Int) ≤ (p2 : Int) := by omega
              let S : World → Prop := fun w' => Below wx.heap.size wx w'
              have qt : ∀ w', S w' → w'.cell? ⟨bB, oB + i, none⟩ = some (.int .i64 t) := fun w' h => (Below.cell (show Below wx.heap.size wx w' from h) (p := ⟨bB, oB + i, none⟩) lBx).trans ctx
              have hS0 : S wx.drew := (Below.refl _ _).drew
              have hoN : (¬ (f < t ∧ t ∈ plcs l ∧ bx l f t = true)) → suz = R := fun hc => by
                have := HS.out
                rw [if_neg hc] at this
                rw [← HR.out, ← this]; rfl
              have HON := Lib.hid hoN
              clear hoN
              have x6 := bBlk (HI.out.1.trans (HQ.out.1.mono (Nat.le_of_lt h8r))) h68.1 HZ.out.2.2.1
              have hBx := HZ.out.1.trans ((HI.out.1.trans (HQ.out.1.mono (Nat.le_of_lt h8r))).mono hw8)
              have HBX := Lib.hid hBx
              have l6x := (Array.getElem?_eq_some_iff.1 x6).1
              clear hBx
              by_cases hpN2 : p2 < NP
              rotate_left
              · obtain rfl : p2 = NP := by omega
                have e1 : ¬ (p2 : Int) < (p2 : Int) := by omega
                have e1d : decide ((p2 : Int) < (p2 : Int)) = false := decide_eq_false e1
                have HRZ := Lib.hid (HON.out (fun hc => by
                  obtain ⟨v, hv, -⟩ := pl_find HQ.out.2 hc.1 hc.2.1
                  have := (List.getElem?_eq_some_iff.1 hv).1
                  have := HPL.out
                  omega))
                clear HON HS
                go_upto_region 9 with (fail)
                refine wp_region_held (S := S) (by kernel_rfl) ?_
                change wpAnyH _ _ _ _ S _ _ _ wx.drew
                change At 0 _
                iterate 15 (first | (apply tkA; (case hi => (simp only [List.getElem?_toArray, List.getElem?_cons_zero, List.getElem?_cons_succ]; rfl)); (case hw => rfl); (case hy => (intro w' hSw; (try simp only [S] at hSw); go_simp; (try with_reducible rfl))); (case hs => kernel_rfl); (case hf => kernel_rfl); (case hr => kernel_rfl); (case hQ => exact fun _ _ _ h => h); (case hS => assumption); (try simp only [Act.put, List.setIfInBounds_toArray, List.set_cons_zero, List.set_cons_succ, Nat.reduceAdd])) | (apply skA; (case hi => (simp only [List.getElem?_toArray, List.getElem?_cons_zero, List.getElem?_cons_succ]; rfl)); (case hw => rfl); (case hs => kernel_rfl); (case hf => kernel_rfl); (case hr => kernel_rfl); (case hQ => exact fun _ _ _ h => h); (case hS => assumption); (try simp only [Act.put, List.setIfInBounds_toArray, List.set_cons_zero, List.set_cons_succ, Nat.reduceAdd])))
                change wpAnyH _ _ _ _ _ _ _ _ _
                refine wpAnyH_done (by kernel_rfl) ?_ _
                obtain ⟨Xa, hXa⟩ : ∃ q, wx.drew = q := ⟨_, rfl⟩
                rw [hXa]
                have hxa : Below wx.heap.size wx Xa := by rw [← hXa]; exact hS0
                clear hXa
                let S2 : World → Prop := fun w' => Below wx.heap.size wx w'
                have hS1 : S2 Xa.drew := hxa.drew
                go_upto_region 11 with (fail)
                refine wp_region_held (S := S2) (by kernel_rfl) ?_
                change wpAnyH _ _ _ _ S2 _ _ _ Xa.drew
                change At 0 _
                iterate 23 (first | (apply tkA; (case hi => (simp only [List.getElem?_toArray, List.getElem?_cons_zero, List.getElem?_cons_succ]; rfl)); (case hw => rfl); (case hy => (intro w' hSw; (try simp only [S] at hSw); go_simp; (try with_reducible rfl))); (case hs => kernel_rfl); (case hf => kernel_rfl); (case hr => kernel_rfl); (case hQ => exact fun _ _ _ h => h); (case hS => assumption); (try simp only [Act.put, List.setIfInBounds_toArray, List.set_cons_zero, List.set_cons_succ, Nat.reduceAdd])) | (apply skA; (case hi => (simp only [List.getElem?_toArray, List.getElem?_cons_zero, List.getElem?_cons_succ]; rfl)); (case hw => rfl); (case hs => kernel_rfl); (case hf => kernel_rfl); (case hr => kernel_rfl); (case hQ => exact fun _ _ _ h => h); (case hS => assumption); (try simp only [Act.put, List.setIfInBounds_toArray, List.set_cons_zero, List.set_cons_succ, Nat.reduceAdd])))
                change wpAnyH _ _ _ _ _ _ _ _ _
                refine wpAnyH_done (by kernel_rfl) ?_ _
                have z6 := bBlk (show Below wx.heap.size wx Xa.drew from hS1) l6x x6
                have hzB := bNext HBX.out (show Below wx.heap.size wx Xa.drew from hS1)
                clear hS0 hS1 hxa x6 ctx
                go_upto_region 12 with (fail)
                refine wp_region_lit ?_
                refine wpList_built rfl 32 #[] rfl (cs := suz) (by simp only [List.map_toArray, List.map_cons, List.map_nil]; exact built_suz) ?_
                (try simp only [Act.put, List.setIfInBounds_toArray, List.set_cons_zero, List.set_cons_succ])
                refine wpList_store_row rfl 32 (.tmp 6) (.tmp 82) rfl _ suz rfl rfl _ suz z6 (su_info _ _ _ _) rfl (su_one _ _ _ _) ?_
                (try simp only [Act.put, List.setIfInBounds_toArray, List.set_cons_zero, List.set_cons_succ])
                go_wp2_with fail
                generalize hX9 : World.setRow _ _ _ = X9
                have b9 : X9.heap[b6]? = some (.cells suz 32) := by rw [← hX9]; exact setRow_heap _ _ _ _ _ _ z6
                have hBX : Below w.heap.size w X9 := by rw [← hX9]; exact bSetRow hzB hb46.1 _
                clear hX9
                refine bodyPost_ret (results_cell_row Try.results11 _ X9 b6 32 suz (0, 0) _ ?_ b9 Try.underlying32 rfl (su_info _ _ _ _)) rfl ?_
                · rfl
                exact Ret.mk (by (rw [← HRZ.out]) <;> rfl) hBX
              · have e1 : (p2 : Int) < (NP : Int) := by omega
                have e1e : ((p2 : Int) == (NP : Int)) = false := beq_eq_false_iff_ne.2 (by omega)
                obtain ⟨v, hv⟩ : ∃ v, (plcs l)[p2]? = some v := ⟨_, List.getElem?_eq_getElem (by have := HPL.out; omega)⟩
                have cvx := (HQ.out.1.cell (p := ⟨bP, oP + p2, none⟩) lPr).trans (HPC.out p2 v hv)
                have qv : ∀ w', S w' → w'.cell? ⟨bP, oP + p2, none⟩ = some (.int .i64 v) := fun w' h => (Below.cell (show Below wx.heap.size wx w' from h) (p := ⟨bP, oP + p2, none⟩) lPx).trans cvx
                by_cases hvt : v < t
                · have HV := Lib.hid hv
                  clear hv HON
                  go_upto_region 9 with (fail)
                  refine wp_region_held (S := S) (by kernel_rfl) ?_
                  change wpAnyH _ _ _ _ S _ _ _ wx.drew
                  change At 0 _
                  iterate 15 (first | (apply tkA; (case hi => (simp only [List.getElem?_toArray, List.getElem?_cons_zero, List.getElem?_cons_succ]; rfl)); (case hw => rfl); (case hy => (intro w' hSw; have h2 := qt w' hSw; have h3 := qv w' hSw; (try simp only [S] at hSw); go_simp; (try with_reducible rfl))); (case hs => kernel_rfl); (case hf => kernel_rfl); (case hr => kernel_rfl); (case hQ => exact fun _ _ _ h => h); (case hS => assumption); (try simp only [Act.put, List.setIfInBounds_toArray, List.set_cons_zero, List.set_cons_succ, Nat.reduceAdd])) | (apply skA; (case hi => (simp only [List.getElem?_toArray, List.getElem?_cons_zero, List.getElem?_cons_succ]; rfl)); (case hw => rfl); (case hs => kernel_rfl); (case hf => kernel_rfl); (case hr => kernel_rfl); (case hQ => exact fun _ _ _ h => h); (case hS => assumption); (try simp only [Act.put, List.setIfInBounds_toArray, List.set_cons_zero, List.set_cons_succ, Nat.reduceAdd])))
                  change wpAnyH _ _ _ _ _ _ _ _ _
                  refine wpAnyH_done (by kernel_rfl) ?_ _
                  have HV2 := Lib.hid (show Below wx.heap.size wx wx.drew from hS0)
                  have g5 : IntKind.i64.wrap ((p2 : Int) + 1) = ((p2 + 1 : Nat) : Int) := by rw [wrap_small _ (by omega) (by omega)]; omega
                  clear hS0 qt qv ctx cvx x6
                  go_wp2_with fail
                  go_roundw
                  case rel => exact ⟨p2 + 1, by go_num, by omega, Lib.hid ⟨bNext HQ.out.1 HV2.out, fun j hj u hu => by
                    rcases Nat.lt_or_ge j p2 with h | h
                    · exact HQ.out.2 j h u hu
                    · obtain rfl : j = p2 := by omega
                      rw [HV.out] at hu
                      injection hu with hu
                      subst hu
                      exact .inr hvt⟩⟩
                  case measure => simp [intOf]; omega
                · have hvd : decide (v < t) = false := decide_eq_false hvt
                  go_upto_region 9 with (fail)
                  refine wp_region_held (S := S) (by kernel_rfl) ?_
                  change wpAnyH _ _ _ _ S _ _ _ wx.drew
                  change At 0 _
                  iterate 15 (first | (apply tkA; (case hi => (simp only [List.getElem?_toArray, List.getElem?_cons_zero, List.getElem?_cons_succ]; rfl)); (case hw => rfl); (case hy => (intro w' hSw; have h2 := qt w' hSw; have h3 := qv w' hSw; (try simp only [S] at hSw); go_simp; (try with_reducible rfl))); (case hs => kernel_rfl); (case hf => kernel_rfl); (case hr => kernel_rfl); (case hQ => exact fun _ _ _ h => h); (case hS => assumption); (try simp only [Act.put, List.setIfInBounds_toArray, List.set_cons_zero, List.set_cons_succ, Nat.reduceAdd])) | (apply skA; (case hi => (simp only [List.getElem?_toArray, List.getElem?_cons_zero, List.getElem?_cons_succ]; rfl)); (case hw => rfl); (case hs => kernel_rfl); (case hf => kernel_rfl); (case hr => kernel_rfl); (case hQ => exact fun _ _ _ h => h); (case hS => assumption); (try simp only [Act.put, List.setIfInBounds_toArray, List.set_cons_zero, List.set_cons_succ, Nat.reduceAdd])))
                  change wpAnyH _ _ _ _ _ _ _ _ _
                  refine wpAnyH_done (by kernel_rfl) ?_ _
                  by_cases hve : v = t
                  rotate_left
                  · have hved : (v == t) = false := beq_eq_false_iff_ne.2 hve
                    have hvbn : (v != t) = true := by rw [bne, hved]; rfl
                    have hvdd : decide (v = t) = false := decide_eq_false hve
                    have HRZ := Lib.hid (HON.out (fun hc => by
                      obtain ⟨u, hu, hut⟩ := pl_find HQ.out.2 hc.1 hc.2.1
                      rw [hv] at hu
                      injection hu with hu
                      omega))
                    clear HON HS hv
                    obtain ⟨Xa, hXa⟩ : ∃ q, wx.drew = q := ⟨_, rfl⟩
                    rw [hXa]
                    have hxa : Below wx.heap.size wx Xa := by rw [← hXa]; exact hS0
                    clear hXa
                    let S2 : World → Prop := fun w' => Below wx.heap.size wx w'
                    have hS1 : S2 Xa.drew := hxa.drew
                    go_upto_region 11 with (fail)
                    refine wp_region_held (S := S2) (by kernel_rfl) ?_
                    change wpAnyH _ _ _ _ S2 _ _ _ Xa.drew
                    change At 0 _
                    iterate 23 (first | (apply tkA; (case hi => (simp only [List.getElem?_toArray, List.getElem?_cons_zero, List.getElem?_cons_succ]; rfl)); (case hw => rfl); (case hy => (intro w' hSw; have h2 := qt w' hSw; have h3 := qv w' hSw; (try simp only [S] at hSw); go_simp; (try with_reducible rfl))); (case hs => kernel_rfl); (case hf => kernel_rfl); (case hr => kernel_rfl); (case hQ => exact fun _ _ _ h => h); (case hS => assumption); (try simp only [Act.put, List.setIfInBounds_toArray, List.set_cons_zero, List.set_cons_succ, Nat.reduceAdd])) | (apply skA; (case hi => (simp only [List.getElem?_toArray, List.getElem?_cons_zero, List.getElem?_cons_succ]; rfl)); (case hw => rfl); (case hs => kernel_rfl); (case hf => kernel_rfl); (case hr => kernel_rfl); (case hQ => exact fun _ _ _ h => h); (case hS => assumption); (try simp only [Act.put, List.setIfInBounds_toArray, List.set_cons_zero, List.set_cons_succ, Nat.reduceAdd])))
                    change wpAnyH _ _ _ _ _ _ _ _ _
                    refine wpAnyH_done (by kernel_rfl) ?_ _
                    have z6 := bBlk (show Below wx.heap.size wx Xa.drew from hS1) l6x x6
                    have hzB := bNext HBX.out (show Below wx.heap.size wx Xa.drew from hS1)
                    clear hS0 hS1 hxa x6 ctx
                    go_upto_region 12 with (fail)
                    refine wp_region_lit ?_
                    refine wpList_built rfl 32 #[] rfl (cs := suz) (by simp only [List.map_toArray, List.map_cons, List.map_nil]; exact built_suz) ?_
                    (try simp only [Act.put, List.setIfInBounds_toArray, List.set_cons_zero, List.set_cons_succ])
                    refine wpList_store_row rfl 32 (.tmp 6) (.tmp 82) rfl _ suz rfl rfl _ suz z6 (su_info _ _ _ _) rfl (su_one _ _ _ _) ?_
                    (try simp only [Act.put, List.setIfInBounds_toArray, List.set_cons_zero, List.set_cons_succ])
                    go_wp2_with fail
                    generalize hX9 : World.setRow _ _ _ = X9
                    have b9 : X9.heap[b6]? = some (.cells suz 32) := by rw [← hX9]; exact setRow_heap _ _ _ _ _ _ z6
                    have hBX : Below w.heap.size w X9 := by rw [← hX9]; exact bSetRow hzB hb46.1 _
                    clear hX9
                    refine bodyPost_ret (results_cell_row Try.results11 _ X9 b6 32 suz (0, 0) _ ?_ b9 Try.underlying32 rfl (su_info _ _ _ _)) rfl ?_
                    · rfl
                    exact Ret.mk (by (rw [← HRZ.out]) <;> rfl) hBX
                  · subst hve
                    have hvv : (v == v) = true := beq_self_eq_true v
                    have hvn : (!(v == v)) = false := by rw [hvv]; rfl
                    by_cases hfv : v ≤ f
                    · have HRZ := Lib.hid (HON.out (fun hc => by omega))
                      clear HON HS hv
                      obtain ⟨Xa, hXa⟩ : ∃ q, wx.drew = q := ⟨_, rfl⟩
                      rw [hXa]
                      have hxa : Below wx.heap.size wx Xa := by rw [← hXa]; exact hS0
                      clear hXa
                      let S2 : World → Prop := fun w' => Below wx.heap.size wx w'
                      have hS1 : S2 Xa.drew := hxa.drew
                      go_upto_region 11 with (fail)
                      refine wp_region_held (S := S2) (by kernel_rfl) ?_
                      change wpAnyH _ _ _ _ S2 _ _ _ Xa.drew
                      change At 0 _
                      iterate 23 (first | (apply tkA; (case hi => (simp only [List.getElem?_toArray, List.getElem?_cons_zero, List.getElem?_cons_succ]; rfl)); (case hw => rfl); (case hy => (intro w' hSw; have h2 := qt w' hSw; have h3 := qv w' hSw; (try simp only [S] at hSw); go_simp; (try with_reducible rfl))); (case hs => kernel_rfl); (case hf => kernel_rfl); (case hr => kernel_rfl); (case hQ => exact fun _ _ _ h => h); (case hS => assumption); (try simp only [Act.put, List.setIfInBounds_toArray, List.set_cons_zero, List.set_cons_succ, Nat.reduceAdd])) | (apply skA; (case hi => (simp only [List.getElem?_toArray, List.getElem?_cons_zero, List.getElem?_cons_succ]; rfl)); (case hw => rfl); (case hs => kernel_rfl); (case hf => kernel_rfl); (case hr => kernel_rfl); (case hQ => exact fun _ _ _ h => h); (case hS => assumption); (try simp only [Act.put, List.setIfInBounds_toArray, List.set_cons_zero, List.set_cons_succ, Nat.reduceAdd])))
                      change wpAnyH _ _ _ _ _ _ _ _ _
                      refine wpAnyH_done (by kernel_rfl) ?_ _
                      have z6 := bBlk (show Below wx.heap.size wx Xa.drew from hS1) l6x x6
                      have hzB := bNext HBX.out (show Below wx.heap.size wx Xa.drew from hS1)
                      clear hS0 hS1 hxa x6 ctx
                      go_upto_region 12 with (fail)
                      refine wp_region_lit ?_
                      refine wpList_built rfl 32 #[] rfl (cs := suz) (by simp only [List.map_toArray, List.map_cons, List.map_nil]; exact built_suz) ?_
                      (try simp only [Act.put, List.setIfInBounds_toArray, List.set_cons_zero, List.set_cons_succ])
                      refine wpList_store_row rfl 32 (.tmp 6) (.tmp 82) rfl _ suz rfl rfl _ suz z6 (su_info _ _ _ _) rfl (su_one _ _ _ _) ?_
                      (try simp only [Act.put, List.setIfInBounds_toArray, List.set_cons_zero, List.set_cons_succ])
                      go_wp2_with fail
                      generalize hX9 : World.setRow _ _ _ = X9
                      have b9 : X9.heap[b6]? = some (.cells suz 32) := by rw [← hX9]; exact setRow_heap _ _ _ _ _ _ z6
                      have hBX : Below w.heap.size w X9 := by rw [← hX9]; exact bSetRow hzB hb46.1 _
                      clear hX9
                      refine bodyPost_ret (results_cell_row Try.results11 _ X9 b6 32 suz (0, 0) _ ?_ b9 Try.underlying32 rfl (su_info _ _ _ _)) rfl ?_
                      · rfl
                      exact Ret.mk (by (rw [← HRZ.out]) <;> rfl) hBX
                    · have hfvd : decide (v ≤ f) = false := decide_eq_false hfv
                      have hvm : v ∈ plcs l := List.mem_of_getElem? hv
                      have hvr := plcs_rng hvm
                      have HV := Lib.hid (And.intro hv hvm)
                      clear hv hvm
                      obtain ⟨Xa, hXa⟩ : ∃ q, wx.drew = q := ⟨_, rfl⟩
                      rw [hXa]
                      have hxa : Below wx.heap.size wx Xa := by rw [← hXa]; exact hS0
                      clear hXa
                      let S2 : World → Prop := fun w' => Below wx.heap.size wx w'
                      have hS1 : S2 Xa.drew := hxa.drew
                      go_upto_region 11 with (fail)
                      refine wp_region_held (S := S2) (by kernel_rfl) ?_
                      change wpAnyH _ _ _ _ S2 _ _ _ Xa.drew
                      change At 0 _
                      iterate 23 (first | (apply tkA; (case hi => (simp only [List.getElem?_toArray, List.getElem?_cons_zero, List.getElem?_cons_succ]; rfl)); (case hw => rfl); (case hy => (intro w' hSw; have h2 := qt w' hSw; have h3 := qv w' hSw; (try simp only [S] at hSw); go_simp; (try with_reducible rfl))); (case hs => kernel_rfl); (case hf => kernel_rfl); (case hr => kernel_rfl); (case hQ => exact fun _ _ _ h => h); (case hS => assumption); (try simp only [Act.put, List.setIfInBounds_toArray, List.set_cons_zero, List.set_cons_succ, Nat.reduceAdd])) | (apply skA; (case hi => (simp only [List.getElem?_toArray, List.getElem?_cons_zero, List.getElem?_cons_succ]; rfl)); (case hw => rfl); (case hs => kernel_rfl); (case hf => kernel_rfl); (case hr => kernel_rfl); (case hQ => exact fun _ _ _ h => h); (case hS => assumption); (try simp only [Act.put, List.setIfInBounds_toArray, List.set_cons_zero, List.set_cons_succ, Nat.reduceAdd])))
                      change wpAnyH _ _ _ _ _ _ _ _ _
                      refine wpAnyH_done (by kernel_rfl) ?_ _
                      obtain ⟨Xb, hXb⟩ : ∃ q, Xa.drew = q := ⟨_, rfl⟩
                      have hxb : Below wx.heap.size wx Xb := by rw [← hXb]; exact hS1
                      rw [hXb]
                      have hbo := HQ.out.1.trans (hxb.mono HQ.out.1.size)
                      have hbZ : Below b8 Z Xb := HI.out.1.trans (hbo.mono (Nat.le_of_lt h8r))
                      have xt := (hxb.cell (p := ⟨bB, oB + i, none⟩) lBx).trans ctx
                      have lBb : bB < Xb.heap.size := by have := hxb.size; omega
                      have hbw : Below w.heap.size w Xb := HZ.out.1.trans (hbZ.mono hw8)
                      have x4 := bBlk hbZ h68.2.1 HZ.out.2.1
                      have x6b := bBlk hbZ h68.1 HZ.out.2.2.1
                      have x8 := bBlk hbo h8r HI.out.2.1
                      have hr4 : Xb.rangeAt b4 0 [.int .i64 sw, .int .i64 sh, .int .i64 st, .int .i64 sc, .int .i64 si] := range_blk x4
                      have l4 := (Array.getElem?_eq_some_iff.1 x4).1
                      have l6 := (Array.getElem?_eq_some_iff.1 x6b).1
                      have l8 := (Array.getElem?_eq_some_iff.1 x8).1
                      have hcl := fun (U : World) (hb : Below Xb.heap.size Xb U) => HRL.out f v U (bNext hbw hb)
                      obtain ⟨cv, hcv⟩ : ∃ q, coV l wd tl f v = q := ⟨_, rfl⟩
                      simp only [hcv] at hcl
                      have hci : (Try.prog.info? 63).map (·.size) = some cv.size := by rw [← hcv]; unfold coV; split <;> exact co_info _ _ _ _
                      have hczs : coz.size = cv.size := by rw [← hcv]; unfold coV; split <;> rfl
                      have hco : cv.all (·.oneCell') = true := by rw [← hcv]; unfold coV; split <;> exact co_one _ _ _ _
                      have hst5 : (Try.prog.info? 24).map (·.size) = some [Value.int .i64 sw, .int .i64 sh, .int .i64 st, .int .i64 sc, .int .i64 si].length := by show _ = some 5; kernel_rfl
                      have HCV := Lib.hid (And.intro hcv (And.intro hbZ (And.intro hbw (And.intro x6b x8))))
                      clear hcv hbZ hbw x6b x8 x4 hbo hxb hXb hS0 hS1 hxa x6 ctx cvx qt qv l6x lBx lPx
                      go_upto_region 13 with (fail)
                      go_cut [12] from 83 to 90 (fun s12 wx2 => ∃ g, s12 = .pointer (some ⟨g, 0, none⟩) ∧ wx2.heap[g]? = some (.cells cv 63) ∧ Xb.heap.size ≤ g ∧ Below Xb.heap.size Xb wx2)
                      case first =>
                        let S3 : World → Prop := fun w' => Below Xb.heap.size Xb w'
                        have hS3 : S3 Xb.drew := (Below.refl _ _).drew
                        have r1 : ∀ w', S3 w' → w'.cell? ⟨bB, oB + i, none⟩ = some (.int .i64 v) := fun w' h => (Below.cell h (p := ⟨bB, oB + i, none⟩) lBb).trans xt
                        have r3 : ∀ w', S3 w' → w'.rangeAt b4 0 [.int .i64 sw, .int .i64 sh, .int .i64 st, .int .i64 sc, .int .i64 si] := fun w' h => bRange h l4 hr4
                        clear xt hr4
                        refine wp_region_held (S := S3) (by kernel_rfl) ?_
                        change wpAnyH _ _ _ _ S3 _ _ _ Xb.drew
                        have hA := Ap.start Xb 3 1
                        obtain ⟨V0, hV0⟩ : ∃ q, Xb.drew = q := ⟨_, rfl⟩
                        rw [hV0] at hA hS3 ⊢
                        clear hV0
                        change At 0 _
                        iterate 1 (first | (apply tkA; (case hi => (simp only [List.getElem?_toArray, List.getElem?_cons_zero, List.getElem?_cons_succ]; rfl)); (case hw => rfl); (case hy => (intro w' hSw; (try simp only [S] at hSw); go_simp; (try with_reducible rfl))); (case hs => kernel_rfl); (case hf => kernel_rfl); (case hr => kernel_rfl); (case hQ => exact fun _ _ _ h => h); (case hS => assumption); (try simp only [Act.put, List.setIfInBounds_toArray, List.set_cons_zero, List.set_cons_succ, Nat.reduceAdd])) | (apply skA; (case hi => (simp only [List.getElem?_toArray, List.getElem?_cons_zero, List.getElem?_cons_succ]; rfl)); (case hw => rfl); (case hs => kernel_rfl); (case hf => kernel_rfl); (case hr => kernel_rfl); (case hQ => exact fun _ _ _ h => h); (case hS => assumption); (try simp only [Act.put, List.setIfInBounds_toArray, List.set_cons_zero, List.set_cons_succ, Nat.reduceAdd])))
                        change wpAnyH _ _ _ _ _ _ _ _ _
                        refine wpAnyH_take (i := 1) (oi := ?oi_1) (v := ?v_1) ?ho_1 ?h1_1 ?h2_1 ?h3_1 ?hq_1 (Or.inl ⟨?hw_1, ?hy_1⟩) ?hs_1 ?rest_1; (case h2_1 => kernel_rfl); (case h3_1 => kernel_rfl); (case ho_1 => (simp only [List.getElem?_toArray, List.getElem?_cons_zero, List.getElem?_cons_succ]; rfl)); (case h1_1 => kernel_rfl); (case hq_1 => exact fun _ _ _ h => h); (case hw_1 => rfl); (case hy_1 => (intro w' hSw; refine exec_load_row (x := .tmp 4) ?_ ?_ (r3 w' hSw) Try.underlying24 ?_ hst5 <;> rfl)); (case hs_1 => assumption); (try simp only [Act.put, List.setIfInBounds_toArray, List.set_cons_zero, List.set_cons_succ])
                        change At 2 _
                        iterate 5 (first | (apply tkA; (case hi => (simp only [List.getElem?_toArray, List.getElem?_cons_zero, List.getElem?_cons_succ]; rfl)); (case hw => rfl); (case hy => (intro w' hSw; have q := r1 w' hSw; (try simp only [S] at hSw); go_simp; (try with_reducible rfl))); (case hs => kernel_rfl); (case hf => kernel_rfl); (case hr => kernel_rfl); (case hQ => exact fun _ _ _ h => h); (case hS => assumption); (try simp only [Act.put, List.setIfInBounds_toArray, List.set_cons_zero, List.set_cons_succ, Nat.reduceAdd])) | (apply skA; (case hi => (simp only [List.getElem?_toArray, List.getElem?_cons_zero, List.getElem?_cons_succ]; rfl)); (case hw => rfl); (case hs => kernel_rfl); (case hf => kernel_rfl); (case hr => kernel_rfl); (case hQ => exact fun _ _ _ h => h); (case hS => assumption); (try simp only [Act.put, List.setIfInBounds_toArray, List.set_cons_zero, List.set_cons_succ, Nat.reduceAdd])))
                        change wpAnyH _ _ _ _ _ _ _ _ _
                        refine wpAnyH_ready (rs := [7, 8]) (by kernel_rfl) (by simp) (AllReadyH.cons (o := ?oo7_2) ?hoo7_2 (fun K hK => ?stepLN7) (AllReadyH.cons (o := ?oo8_2) ?hoo8_2 (fun K hK => ?stepLN8) AllReadyH.nil)); (case hoo7_2 => (simp only [List.getElem?_toArray, List.getElem?_cons_zero, List.getElem?_cons_succ]; rfl)); (case hoo8_2 => (simp only [List.getElem?_toArray, List.getElem?_cons_zero, List.getElem?_cons_succ]; rfl))
                        case stepLN7 =>
                          go_simp
                          refine Calls.mono (hcl V0 hS3) ?_
                          rintro e V1 ⟨rfl, hc1⟩
                          have hA2 := hA.call hc1
                          refine hK.out _ _ hA2.below (fun _ => ?_)
                          clear hK K hA hc1
                          (try simp only [Act.put, List.setIfInBounds_toArray, List.set_cons_zero, List.set_cons_succ])
                          refine wpAnyH_ready (rs := [8]) (by kernel_rfl) (by simp) (AllReadyH.cons (o := ?oo8_3) ?hoo8_3 (fun K hK => ?steponly3) AllReadyH.nil); (case hoo8_3 => (simp only [List.getElem?_toArray, List.getElem?_cons_zero, List.getElem?_cons_succ]; rfl))
                          refine step_new rfl hcz rfl ?_
                          refine Ap.goP hA2 ?_
                          intro V2 gs hA3
                          refine hK.out _ _ hA3.below (fun _ => ?_)
                          clear hK K hA2
                          (try simp only [Act.put, List.setIfInBounds_toArray, List.set_cons_zero, List.set_cons_succ])
                          refine wpAnyH_ready (rs := [9]) (by kernel_rfl) (by simp) (AllReadyH.cons (o := ?oo9_4) ?hoo9_4 (fun K hK => ?steponly4) AllReadyH.nil); (case hoo9_4 => (simp only [List.getElem?_toArray, List.getElem?_cons_zero, List.getElem?_cons_succ]; rfl))
                          refine step_row rfl 63 (.tmp 12) (.tmp 90) rfl gs cv rfl rfl _ coz (hA3.blk gs _ (List.Mem.head _)).1 hci hczs hco ?_
                          obtain ⟨hb1, -, hblk1, -, hge1⟩ := hA3.row (List.Mem.head _) cv
                          refine hK.out _ _ hb1 (fun _ => ?_)
                          clear hK K hA3
                          (try simp only [Act.put, List.setIfInBounds_toArray, List.set_cons_zero, List.set_cons_succ])
                          refine wpAnyH_done (by kernel_rfl) ?_ _
                          have HE := Lib.hid (And.intro hblk1 (And.intro hge1 hb1))
                          clear hb1 hblk1 hge1 r1 r3 hS3
                          go_wp2_with fail
                          go_meet
                          exact ⟨gs, rfl, HE.out⟩
                        case stepLN8 =>
                          refine step_new rfl hcz rfl ?_
                          refine Ap.goP hA ?_
                          intro V1 gs hA2
                          refine hK.out _ _ hA2.below (fun _ => ?_)
                          clear hK K hA
                          (try simp only [Act.put, List.setIfInBounds_toArray, List.set_cons_zero, List.set_cons_succ])
                          refine wpAnyH_ready (rs := [7]) (by kernel_rfl) (by simp) (AllReadyH.cons (o := ?oo7_5) ?hoo7_5 (fun K hK => ?steponly5) AllReadyH.nil); (case hoo7_5 => (simp only [List.getElem?_toArray, List.getElem?_cons_zero, List.getElem?_cons_succ]; rfl))
                          go_simp
                          refine Calls.mono (hcl V1 hA2.below) ?_
                          rintro e V2 ⟨rfl, hc1⟩
                          have hA3 := hA2.call hc1
                          refine hK.out _ _ hA3.below (fun _ => ?_)
                          clear hK K hA2 hc1
                          (try simp only [Act.put, List.setIfInBounds_toArray, List.set_cons_zero, List.set_cons_succ])
                          refine wpAnyH_ready (rs := [9]) (by kernel_rfl) (by simp) (AllReadyH.cons (o := ?oo9_6) ?hoo9_6 (fun K hK => ?steponly6) AllReadyH.nil); (case hoo9_6 => (simp only [List.getElem?_toArray, List.getElem?_cons_zero, List.getElem?_cons_succ]; rfl))
                          refine step_row rfl 63 (.tmp 12) (.tmp 90) rfl gs cv rfl rfl _ coz (hA3.blk gs _ (List.Mem.head _)).1 hci hczs hco ?_
                          obtain ⟨hb1, -, hblk1, -, hge1⟩ := hA3.row (List.Mem.head _) cv
                          refine hK.out _ _ hb1 (fun _ => ?_)
                          clear hK K hA3
                          (try simp only [Act.put, List.setIfInBounds_toArray, List.set_cons_zero, List.set_cons_succ])
                          refine wpAnyH_done (by kernel_rfl) ?_ _
                          have HE := Lib.hid (And.intro hblk1 (And.intro hge1 hb1))
                          clear hb1 hblk1 hge1 r1 r3 hS3
                          go_wp2_with fail
                          go_meet
                          exact ⟨gs, rfl, HE.out⟩
                      case rest =>
                      obtain ⟨gc, rfl, y12, hgc, hbx⟩ := hcut
                      rename World => Wc
                      obtain ⟨ok, hok⟩ : ∃ q, bx l f v = q := ⟨_, rfl⟩
                      obtain ⟨D, hD⟩ : ∃ q, lineD l wd tl f v = q := ⟨_, rfl⟩
                      have hDb := lineD_bd l wd tl f v
                      have hDo := @lineD_over l wd tl f v
                      rw [hD] at hDb hDo
                      have hcvf : cv = coC (if ok then D.n else 0) (ok && D.over) (ok && D.may) ok := by
                        rw [← HCV.out.1, ← hok, ← hD]
                        unfold coV
                        split
                        · rename_i hb; rw [hb]; simp
                        · rename_i hb
                          have hb' : bx l f v = false := by simpa using hb
                          rw [hb']; rfl
                      rw [hcvf] at y12
                      have lgc := (Array.getElem?_eq_some_iff.1 y12).1
                      have q3 : Wc.cell? ⟨gc, 3, none⟩ = some (.bool ok) := blk_cell y12 rfl
                      cases ok with
                      | false =>
                        have HRZ := Lib.hid (HON.out (fun hc => by rw [hok] at hc; cases hc.2.2))
                        have z6 := bBlk hbx l6 HCV.out.2.2.2.1
                        have hzB := bNext HCV.out.2.2.1 hbx
                        clear HON HS y12 hbx xt hr4 hcl hci hczs hco hcvf
                        go_upto_region 15 with (fail)
                        refine wp_region_lit ?_
                        refine wpList_built rfl 32 #[] rfl (cs := suz) (by simp only [List.map_toArray, List.map_cons, List.map_nil]; exact built_suz) ?_
                        (try simp only [Act.put, List.setIfInBounds_toArray, List.set_cons_zero, List.set_cons_succ])
                        refine wpList_store_row rfl 32 (.tmp 6) (.tmp 94) rfl _ suz rfl rfl _ suz z6 (su_info _ _ _ _) rfl (su_one _ _ _ _) ?_
                        (try simp only [Act.put, List.setIfInBounds_toArray, List.set_cons_zero, List.set_cons_succ])
                        go_wp2_with fail
                        generalize hX9 : World.setRow _ _ _ = X9
                        have b9 : X9.heap[b6]? = some (.cells suz 32) := by rw [← hX9]; exact setRow_heap _ _ _ _ _ _ z6
                        have hBX : Below w.heap.size w X9 := by rw [← hX9]; exact bSetRow hzB hb46.1 _
                        clear hX9
                        refine bodyPost_ret (results_cell_row Try.results11 _ X9 b6 32 suz (0, 0) _ ?_ b9 Try.underlying32 rfl (su_info _ _ _ _)) rfl ?_
                        · rfl
                        exact Ret.mk (by (rw [← HRZ.out]) <;> rfl) hBX
                      | true =>
                      have y12n : Wc.heap[gc]? = some (.cells (coC D.n D.over D.may true) 63) := by rw [y12]; simp only [if_true, Bool.true_and]
                      clear y12
                      have y12 := y12n
                      clear y12n
                      have q0 : Wc.cell? ⟨gc, 0, none⟩ = some (.int .i64 D.n) := blk_cell y12 rfl
                      have q1 : Wc.cell? ⟨gc, 1, none⟩ = some (.bool D.over) := blk_cell y12 rfl
                      have q2 : Wc.cell? ⟨gc, 2, none⟩ = some (.bool D.may) := blk_cell y12 rfl
                      have x8c := bBlk hbx l8 HCV.out.2.2.2.2
                      have xtc := (hbx.cell (p := ⟨bB, oB + i, none⟩) lBb).trans xt
                      have hbZc : Below b8 Z Wc := HCV.out.2.1.trans (hbx.mono (by omega))
                      have hstn : stepW l wd tl v (withW l wd tl y f v) (mb && D.may) (bs.drop (i + 1)) = O := by
                        have := HS.out
                        rw [if_pos ⟨by omega, HV.out.2, hok⟩, hD] at this
                        exact this
                      have hsrt : ∀ j : Nat, j < p2 → ∀ u, (plcs l)[j]? = some u → u ≤ v := fun j hj u hu => by rcases HQ.out.2 j hj u hu with h | h <;> omega
                      have k80 : Wc.cell? ⟨b8, 0, none⟩ = some (.int .i64 y.total) := blk_cell x8c rfl
                      have f80 := blk_frozen x8c 0
                      have l8c := (Array.getElem?_eq_some_iff.1 x8c).1
                      have hgb8 : gc ≠ b8 := by omega
                      have g6 : IntKind.i64.wrap (y.total + D.n) = y.total + D.n := wrap_small _ (by omega) (by omega)
                      have g7 : IntKind.i64.wrap (y.over + 1) = y.over + 1 := wrap_small _ (by omega) (by omega)
                      have g8 : IntKind.i64.wrap ((i : Int) + 1) = ((i + 1 : Nat) : Int) := by rw [wrap_small _ (by omega) (by omega)]; omega
                      have hfi := HI.out.2.2.2.2
                      have HW := Lib.hid (And.intro x8c (And.intro hbZc (And.intro hstn (And.intro hsrt (And.intro y12 (And.intro hDo (And.intro hD hfi)))))))
                      clear x8c hbZc hstn hsrt y12 hDo hD hbx xt hr4 hcl hci hczs hco hcvf hok HON HS hfi
                      have lBc : bB < Wc.heap.size := by omega
                      go_upto_region 17 with (fail)
                      obtain ⟨U1, hU1⟩ : ∃ q, Wc.setCell ⟨b8, 0, none⟩ (.int .i64 (y.total + D.n)) = q := ⟨_, rfl⟩
                      try rw [hU1]
                      have u8 : U1.heap[b8]? = some (.cells (suC (y.total + D.n) y.over true mb) 32) := by rw [← hU1]; exact blk_set HW.out.1 0 _
                      have ub : But Wc.heap.size (· = b8) Wc U1 := by rw [← hU1]; exact But.setp (p := b8) (But.refl _ _ _) 0 _
                      have uc := ub.blk lgc hgb8 HW.out.2.2.2.2.1
                      have uq1 : U1.cell? ⟨gc, 1, none⟩ = some (.bool D.over) := blk_cell uc rfl
                      have uq2 : U1.cell? ⟨gc, 2, none⟩ = some (.bool D.may) := blk_cell uc rfl
                      have ut : U1.cell? ⟨bB, oB + i, none⟩ = some (.int .i64 v) := (World.cell?_of_block (a := ⟨bB, oB + i, none⟩) (ub.block bB lBc (by omega))).trans xtc
                      have ulc := (Array.getElem?_eq_some_iff.1 uc).1
                      have ul8 := (Array.getElem?_eq_some_iff.1 u8).1
                      have ulB : bB < U1.heap.size := by have := ub.size; omega
                      have HU1 := Lib.hid (And.intro u8 (And.intro ub uc))
                      have uk1 : U1.cell? ⟨b8, 1, none⟩ = some (.int .i64 y.over) := blk_cell u8 rfl
                      have uf1 := blk_frozen u8 1
                      clear hU1 u8 ub uc q0 q1 q2 q3 k80 f80 xtc
                      cases hov : D.over with
                      | true =>
                        rw [hov] at uq1
                        go_upto_region 19 with (fail)
                        obtain ⟨U2, hU2⟩ : ∃ q, U1.setCell ⟨b8, 1, none⟩ (.int .i64 (y.over + 1)) = q := ⟨_, rfl⟩
                        try rw [hU2]
                        have v8 : U2.heap[b8]? = some (.cells (suC (y.total + D.n) (y.over + 1) true mb) 32) := by rw [← hU2]; exact blk_set HU1.out.1 1 _
                        have vb : But Wc.heap.size (· = b8) Wc U2 := by rw [← hU2]; exact HU1.out.2.1.setp 1 _
                        have hYO : Hid (withW l wd tl y f v = ⟨y.ends ++ [v], y.total + D.n, y.over + 1⟩) := Lib.hid (by unfold withW; rw [HW.out.2.2.2.2.2.2.1, hov]; rfl)
                        have hMA : Hid (D.may = false) := Lib.hid (HW.out.2.2.2.2.2.1 hov).2.2
                        have wc2 := vb.blk lgc hgb8 HW.out.2.2.2.2.1
                        have wq1 : U2.cell? ⟨gc, 1, none⟩ = some (.bool true) := by rw [← hov]; exact blk_cell wc2 rfl
                        have wq2 : U2.cell? ⟨gc, 2, none⟩ = some (.bool D.may) := blk_cell wc2 rfl
                        have wt : U2.cell? ⟨bB, oB + i, none⟩ = some (.int .i64 v) := (World.cell?_of_block (a := ⟨bB, oB + i, none⟩) (vb.block bB lBc (by omega))).trans (by
                          obtain ⟨-, ub, -⟩ := HU1.out
                          rw [← (World.cell?_of_block (a := ⟨bB, oB + i, none⟩) (ub.block bB lBc (by omega)))]; exact ut)
                        have wl8 := (Array.getElem?_eq_some_iff.1 v8).1
                        have wlc := (Array.getElem?_eq_some_iff.1 wc2).1
                        have wlB : bB < U2.heap.size := by have := vb.size; omega
                        have wk3 : U2.cell? ⟨b8, 3, none⟩ = some (.bool mb) := blk_cell v8 rfl
                        have wf3 := blk_frozen v8 3
                        have HU2 := Lib.hid (And.intro v8 vb)
                        clear hU2 v8 vb wc2 uq1 uq2 ut uk1 uf1
                        obtain ⟨nm, hnm⟩ : ∃ q, (mb && D.may) = q := ⟨_, rfl⟩
                        have hstp : Hid (stepW l wd tl v ⟨y.ends ++ [v], y.total + D.n, (y.over + 1) ⟩ nm (bs.drop (i + 1)) = O) := Lib.hid (by rw [← hnm, ← hYO.out]; exact HW.out.2.2.1)
                        obtain ⟨U3, hU3⟩ : ∃ q, U2.setCell ⟨b8, 3, none⟩ (.bool nm) = q := ⟨_, rfl⟩
                        have z8 : U3.heap[b8]? = some (.cells (suC (y.total + D.n) (y.over + 1) true nm) 32) := by rw [← hU3]; exact blk_set HU2.out.1 3 _
                        have zb : But Wc.heap.size (· = b8) Wc U3 := by rw [← hU3]; exact HU2.out.2.setp 3 _
                        have zt : U3.cell? ⟨bB, oB + i, none⟩ = some (.int .i64 v) := (World.cell?_of_block (a := ⟨bB, oB + i, none⟩) (zb.block bB lBc (by omega))).trans ((World.cell?_of_block (a := ⟨bB, oB + i, none⟩) (HU2.out.2.block bB lBc (by omega))).symm.trans wt)
                        have zlB : bB < U3.heap.size := by have := zb.size; omega
                        have zl8 := (Array.getElem?_eq_some_iff.1 z8).1
                        have HU3 := Lib.hid (And.intro z8 (And.intro zb hnm))
                        clear z8 zb
                        cases mb with
                        | false =>
                          have hn2 : nm = false := by rw [← hnm]; rfl
                          subst hn2
                          clear hnm
                          go_upto_region 20 with (fail)
                          try rw [hU3]
                          clear hU3 wk3 wf3 wt
                          go_wp2_with fail
                          go_roundw
                          case rel =>
                            refine ⟨v, p2, i + 1, ⟨y.ends ++ [v], y.total + D.n, (y.over + 1) ⟩, _, rfl, rfl, by go_num, by omega, by omega, ?_, zl8, Lib.hid ⟨HW.out.2.1.trans (HU3.out.2.1.below (by omega) (fun q e => by omega)), HU3.out.1, HW.out.2.2.2.1, hstp.out, by have := HW.out.2.2.2.2.2.2.2; omega⟩⟩
                            exact ⟨by simp only; omega, by simp only; omega, by simp only; omega, by have := HW.out.2.2.2.2.2.2.2; have := HZ.out.2.2.2.2.2.1; omega⟩
                          case measure => simp [intOf]; omega
                        | true =>
                          have hn2 : nm = D.may := by rw [← hnm]; rfl
                          subst hn2
                          rw [hMA.out] at hU3 wq2
                          clear hnm
                          go_upto_region 20 with (fail)
                          try rw [hU3]
                          clear hU3 wk3 wf3 wt
                          go_wp2_with fail
                          go_roundw
                          case rel =>
                            refine ⟨v, p2, i + 1, ⟨y.ends ++ [v], y.total + D.n, (y.over + 1) ⟩, _, rfl, rfl, by go_num, by omega, by omega, ?_, zl8, Lib.hid ⟨HW.out.2.1.trans (HU3.out.2.1.below (by omega) (fun q e => by omega)), HU3.out.1, HW.out.2.2.2.1, hstp.out, by have := HW.out.2.2.2.2.2.2.2; omega⟩⟩
                            exact ⟨by simp only; omega, by simp only; omega, by simp only; omega, by have := HW.out.2.2.2.2.2.2.2; have := HZ.out.2.2.2.2.2.1; omega⟩
                          case measure => simp [intOf]; omega
                      | false =>
                        rw [hov] at uq1
                        obtain ⟨U2, hU2⟩ : ∃ q, U1 = q := ⟨_, rfl⟩
                        have v8 : U2.heap[b8]? = some (.cells (suC (y.total + D.n) y.over true mb) 32) := by rw [← hU2]; exact HU1.out.1
                        have vb : But Wc.heap.size (· = b8) Wc U2 := by rw [← hU2]; exact HU1.out.2.1
                        have hYO : Hid (withW l wd tl y f v = ⟨y.ends ++ [v], y.total + D.n, y.over⟩) := Lib.hid (by unfold withW; rw [HW.out.2.2.2.2.2.2.1, hov]; simp)
                        rw [hU2]
                        rw [hU2] at uq1
                        have wc2 := vb.blk lgc hgb8 HW.out.2.2.2.2.1
                        have wq1 : U2.cell? ⟨gc, 1, none⟩ = some (.bool false) := by rw [← hov]; exact blk_cell wc2 rfl
                        have wq2 : U2.cell? ⟨gc, 2, none⟩ = some (.bool D.may) := blk_cell wc2 rfl
                        have wt : U2.cell? ⟨bB, oB + i, none⟩ = some (.int .i64 v) := (World.cell?_of_block (a := ⟨bB, oB + i, none⟩) (vb.block bB lBc (by omega))).trans (by
                          obtain ⟨-, ub, -⟩ := HU1.out
                          rw [← (World.cell?_of_block (a := ⟨bB, oB + i, none⟩) (ub.block bB lBc (by omega)))]; exact ut)
                        have wl8 := (Array.getElem?_eq_some_iff.1 v8).1
                        have wlc := (Array.getElem?_eq_some_iff.1 wc2).1
                        have wlB : bB < U2.heap.size := by have := vb.size; omega
                        have wk3 : U2.cell? ⟨b8, 3, none⟩ = some (.bool mb) := blk_cell v8 rfl
                        have wf3 := blk_frozen v8 3
                        have HU2 := Lib.hid (And.intro v8 vb)
                        clear hU2 v8 vb wc2 uq1 uq2 ut uk1 uf1
                        obtain ⟨nm, hnm⟩ : ∃ q, (mb && D.may) = q := ⟨_, rfl⟩
                        have hstp : Hid (stepW l wd tl v ⟨y.ends ++ [v], y.total + D.n, y.over ⟩ nm (bs.drop (i + 1)) = O) := Lib.hid (by rw [← hnm, ← hYO.out]; exact HW.out.2.2.1)
                        obtain ⟨U3, hU3⟩ : ∃ q, U2.setCell ⟨b8, 3, none⟩ (.bool nm) = q := ⟨_, rfl⟩
                        have z8 : U3.heap[b8]? = some (.cells (suC (y.total + D.n) y.over true nm) 32) := by rw [← hU3]; exact blk_set HU2.out.1 3 _
                        have zb : But Wc.heap.size (· = b8) Wc U3 := by rw [← hU3]; exact HU2.out.2.setp 3 _
                        have zt : U3.cell? ⟨bB, oB + i, none⟩ = some (.int .i64 v) := (World.cell?_of_block (a := ⟨bB, oB + i, none⟩) (zb.block bB lBc (by omega))).trans ((World.cell?_of_block (a := ⟨bB, oB + i, none⟩) (HU2.out.2.block bB lBc (by omega))).symm.trans wt)
                        have zlB : bB < U3.heap.size := by have := zb.size; omega
                        have zl8 := (Array.getElem?_eq_some_iff.1 z8).1
                        have HU3 := Lib.hid (And.intro z8 (And.intro zb hnm))
                        clear z8 zb
                        cases mb with
                        | false =>
                          have hn2 : nm = false := by rw [← hnm]; rfl
                          subst hn2
                          clear hnm
                          go_upto_region 20 with (fail)
                          try rw [hU3]
                          clear hU3 wk3 wf3 wt
                          go_wp2_with fail
                          go_roundw
                          case rel =>
                            refine ⟨v, p2, i + 1, ⟨y.ends ++ [v], y.total + D.n, y.over ⟩, _, rfl, rfl, by go_num, by omega, by omega, ?_, zl8, Lib.hid ⟨HW.out.2.1.trans (HU3.out.2.1.below (by omega) (fun q e => by omega)), HU3.out.1, HW.out.2.2.2.1, hstp.out, by have := HW.out.2.2.2.2.2.2.2; omega⟩⟩
                            exact ⟨by simp only; omega, by simp only; omega, by simp only; omega, by have := HW.out.2.2.2.2.2.2.2; have := HZ.out.2.2.2.2.2.1; omega⟩
                          case measure => simp [intOf]; omega
                        | true =>
                          have hn2 : nm = D.may := by rw [← hnm]; rfl
                          subst hn2
                          clear hnm
                          go_upto_region 20 with (fail)
                          try rw [hU3]
                          clear hU3 wk3 wf3 wt
                          go_wp2_with fail
                          go_roundw
                          case rel =>
                            refine ⟨v, p2, i + 1, ⟨y.ends ++ [v], y.total + D.n, y.over ⟩, _, rfl, rfl, by go_num, by omega, by omega, ?_, zl8, Lib.hid ⟨HW.out.2.1.trans (HU3.out.2.1.below (by omega) (fun q e => by omega)), HU3.out.1, HW.out.2.2.2.1, hstp.out, by have := HW.out.2.2.2.2.2.2.2; omega⟩⟩
                            exact ⟨by simp only; omega, by simp only; omega, by simp only; omega, by have := HW.out.2.2.2.2.2.2.2; have := HZ.out.2.2.2.2.2.1; omega⟩
                          case measure => simp [intOf]; omega
end Go.Proofs.Ytnojikbecohhfaa
