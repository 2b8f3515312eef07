/- sheet.may. -/
import Derived.Test.YtiffcdeagckgmaaDoorShPieces
import Derived.Test.YtiffcdeagckgmaaDoorTab
namespace Go.Proofs.YtiffcdeagckgmaaDoor
set_option linter.unusedSimpArgs false
set_option linter.unusedVariables false
open Go.RowKit Go.Shelf
attribute [local go_sem] Oper.semAt_some

def lineOk (r : LN × List PC) : Prop := 1 ≤ r.1.kind ∧ r.1.kind ≤ 3 ∧ r.2.length ≤ 200
def pcOk (p : PC) : Prop := 0 ≤ p.x ∧ p.x ≤ 65535 ∧ 1 ≤ p.s.size ∧ p.s.size ≤ 255 ∧ Lib.validD p.s.data.toList = true
/-- whether a sheet may be, but for its bytes -/
def MayP (num : Int) (l : List (LN × List PC)) : Prop := (1 ≤ num ∧ num ≤ 255 ∧ l.length ≤ 20) ∧ (∀ r ∈ l, lineOk r) ∧ ∀ p ∈ flatP l, pcOk p
open Classical in
noncomputable def mayP (num : Int) (l : List (LN × List PC)) : Bool := decide (MayP num l)
theorem mayP_no {num : Int} {l : List (LN × List PC)} (h : ¬ MayP num l) : mayP num l = false := by unfold mayP; simpa using h
theorem mayP_yes {num : Int} {l : List (LN × List PC)} (h : MayP num l) : mayP num l = true := by unfold mayP; simpa using h

set_option maxRecDepth 100000 in
set_option maxHeartbeats 8000000 in
theorem may_any {A : Option Addr} {n c : Nat} {num : Int} {l : List (LN × List PC)} (hnum : -9223372036854775808 ≤ num ∧ num ≤ 9223372036854775807) (w : World) (hl : RnAt w w.heap.size A n c l) (hc : c ≤ maxLen) (hT : Tabs w) :
    Calls Tryd.prog 19 #[.agg #[.int .i64 num, .slice A n c]] w (Ret w (.bool (mayP num l))) := by
  obtain ⟨hnum1, hnum2⟩ := hnum
  have hln := hl.len
  have hcap := hl.ln.cap
  simp only [maxLen] at hc
  have hn9 : (n : Int) ≤ 9223372036854775807 := by omega
  have HL := Lib.hid (And.intro hl hln)
  have HT := Lib.hid hT
  have hps := fun cs W => pieces_any cs W
  clear hl hT hln hcap
  refine (callsIn_wide (n := 11)).1 ?_
  refine callsIn_of_wp_marks Tryd.func19 rfl trivial ?_ rfl
  simp only [Tryd.ntmps19, List.size_toArray, List.length_cons, List.length_nil, Nat.reduceAdd, Nat.reduceSub, Array.replicate_succ, Array.replicate_zero, List.push_toArray, List.append_toArray, List.nil_append, List.cons_append]
  by_cases hbad : 1 ≤ num ∧ num ≤ 255 ∧ n ≤ 20
  · obtain ⟨m1, m2, m3⟩ := hbad
    have g1 : ¬ num < 1 := by omega
    have g2 : ¬ 255 < num := by omega
    have g3 : ¬ (20 : Int) < n := by omega
    gi_wp2
    generalize hW : World.alloc (World.alloc w _) _ = W1
    have bS : W1.heap[w.heap.size]? = some (.cells #[.int .i64 num, .slice A n c] 24) := by
      rw [← hW]; exact (Below.heap_alloc _ _ _ (by simp)).trans (heap_alloc_new _ _)
    have bR : W1.heap[w.heap.size + 1]? = some (.cells #[.bool false] 4) := by
      rw [← hW]; exact heap_alloc_new2 _ _ _
    have hB0 : Below w.heap.size w W1 := by rw [← hW]; exact ((Below.refl _ w).alloc (Nat.le_refl _) _).alloc (by simp) _
    have hz : w.heap.size + 2 ≤ W1.heap.size := by rw [← hW]; simp
    clear hW
    gi_loopw [23] (fun q wr => ∃ i : Nat, i ≤ n ∧ q = .int .i64 i ∧ (∀ (k : Nat) (r : LN × List PC), k < i → l[k]? = some r → lineOk r) ∧ Below W1.heap.size W1 wr) (fun q _ => n - (intOf q).toNat)
    case atStart => exact ⟨0, Nat.zero_le _, rfl, fun k r h => by omega, Below.refl _ _⟩
    case round =>
      obtain ⟨i, hi, rfl, hok, hb⟩ := hrel
      have HOK := Lib.hid hok
      clear hok
      have hzw := hb.size
      have bRw := bBlk hb (by omega) bR
      have bSw := bBlk hb (by omega) bS
      have hbw : Below w.heap.size w wr := hB0.trans (hb.mono (by omega))
      by_cases hlt : i < n
      · obtain ⟨⟨x, px⟩, hx⟩ : ∃ x, l[i]? = some x := ⟨_, List.getElem?_eq_getElem (by rw [HL.out.2]; exact hlt)⟩
        have g4 : (i : Int) < n := by omega
        have hLr := HL.out.1.below hbw
        obtain ⟨b, o, A1, n1, c1, rfl, hbB, hrow, hpv, hpc⟩ := hLr.entry hx
        simp only at hrow hpv hpc
        have hone : x.One := by unfold LN.One; rw [hpv]; rfl
        have ix := ln_linfo x
        have jx := ln_info x
        have ox := one_ln hone
        obtain ⟨Y, hYY, y5, bY⟩ := newRow wr #[.int .i64 0, .bool false, .bool false, .bool false, .slice none 0 0] x.cells.toArray 45
        have k0 : Y.cell? ⟨wr.heap.size, 0, none⟩ = some (.int .i64 x.kind) := blk_cell y5 rfl
        have k4 : Y.cell? ⟨wr.heap.size, 4, none⟩ = some x.pv := blk_cell y5 rfl
        rw [hpv] at k4
        have r0 := blk_cell (bBlk bY (by omega) bRw) (k := 0) rfl
        have f0 := blk_frozen (bBlk bY (by omega) bRw) 0
        have hbY : Below w.heap.size w Y := hbw.trans (bY.mono (by omega))
        have hbY1 : Below W1.heap.size W1 Y := hb.trans (bY.mono (by omega))
        have bRY := bBlk bY (by omega) bRw
        have hn1 := hpc.len
        have hm1 := hpc.cap
        have hm2 := hpc.most
        simp only [maxLen] at hm2
        have hm3 : (n1 : Int) ≤ 9223372036854775807 := by omega
        have hkw := hLr.ln.wide x (by unfold lnsOf; exact List.mem_map.2 ⟨_, List.mem_of_getElem? hx, rfl⟩)
        obtain ⟨kw1, kw2⟩ := hkw
        have HN1 := Lib.hid hn1
        clear hn1 hm1 hm2
        have HX := Lib.hid hx
        clear hx hpc hLr
        have hbad : ¬ lineOk (x, px) → Hid (mayP num l = false) := fun h => Lib.hid (mayP_no (fun hm => h (hm.2.1 _ (List.mem_of_getElem? HX.out))))
        have HBAD := Lib.hid hbad
        clear hbad
        by_cases c1 : x.kind < 1
        · have HV := HBAD.out (fun h => by have := h.1; simp only at this; omega)
          gi_wp2_with (first
            | (refine wpListIn_val rfl (fun c e => by cases e) rfl (exec_load_row (x := .tmp 25) rfl rfl hrow Tryd.underlying45 rfl ix) ?_)
            | (refine wpListIn_val rfl (fun c e => by cases e) rfl (exec_new lnZ rfl _) ?_)
            | (refine wpListIn_skip rfl (fun c e => by cases e) rfl (exec_store_row (x := .tmp 4) (y := .tmp 26) rfl rfl rfl (heap_alloc_new _ _) jx rfl ox) ?_)
            | fail)
          obtain ⟨V, hV⟩ : ∃ V, Y.setCell ⟨w.heap.size + 1, 0, none⟩ (.bool false) = V := ⟨_, rfl⟩
          rw [hV]
          have hBV : Below w.heap.size w V := by rw [← hV]; exact hbY.setCell (p := ⟨w.heap.size + 1, 0, none⟩) (by show w.heap.size ≤ w.heap.size + 1; omega) _
          have z0 : V.cell? ⟨w.heap.size + 1, 0, none⟩ = some (.bool false) := by rw [← hV]; exact blk_cell (blk_set bRY 0 _) rfl
          clear hV
          exact ⟨_, by simp [results, Tryd.results19, go_sem, z0]; rfl, Ret.mk (by rw [HV.out]) hBV⟩
        · by_cases c2 : 3 < x.kind
          · have HV := HBAD.out (fun h => by have := h.2.1; simp only at this; omega)
            gi_wp2_with (first
              | (refine wpListIn_val rfl (fun c e => by cases e) rfl (exec_load_row (x := .tmp 25) rfl rfl hrow Tryd.underlying45 rfl ix) ?_)
              | (refine wpListIn_val rfl (fun c e => by cases e) rfl (exec_new lnZ rfl _) ?_)
              | (refine wpListIn_skip rfl (fun c e => by cases e) rfl (exec_store_row (x := .tmp 4) (y := .tmp 26) rfl rfl rfl (heap_alloc_new _ _) jx rfl ox) ?_)
              | fail)
            obtain ⟨V, hV⟩ : ∃ V, Y.setCell ⟨w.heap.size + 1, 0, none⟩ (.bool false) = V := ⟨_, rfl⟩
            rw [hV]
            have hBV : Below w.heap.size w V := by rw [← hV]; exact hbY.setCell (p := ⟨w.heap.size + 1, 0, none⟩) (by show w.heap.size ≤ w.heap.size + 1; omega) _
            have z0 : V.cell? ⟨w.heap.size + 1, 0, none⟩ = some (.bool false) := by rw [← hV]; exact blk_cell (blk_set bRY 0 _) rfl
            clear hV
            exact ⟨_, by simp [results, Tryd.results19, go_sem, z0]; rfl, Ret.mk (by rw [HV.out]) hBV⟩
          · by_cases c3 : (200 : Int) < n1
            · have HV := HBAD.out (fun h => by have := h.2.2; simp only at this; have := HN1.out; omega)
              gi_wp2_with (first
                | (refine wpListIn_val rfl (fun c e => by cases e) rfl (exec_load_row (x := .tmp 25) rfl rfl hrow Tryd.underlying45 rfl ix) ?_)
                | (refine wpListIn_val rfl (fun c e => by cases e) rfl (exec_new lnZ rfl _) ?_)
                | (refine wpListIn_skip rfl (fun c e => by cases e) rfl (exec_store_row (x := .tmp 4) (y := .tmp 26) rfl rfl rfl (heap_alloc_new _ _) jx rfl ox) ?_)
                | fail)
              obtain ⟨V, hV⟩ : ∃ V, Y.setCell ⟨w.heap.size + 1, 0, none⟩ (.bool false) = V := ⟨_, rfl⟩
              rw [hV]
              have hBV : Below w.heap.size w V := by rw [← hV]; exact hbY.setCell (p := ⟨w.heap.size + 1, 0, none⟩) (by show w.heap.size ≤ w.heap.size + 1; omega) _
              have z0 : V.cell? ⟨w.heap.size + 1, 0, none⟩ = some (.bool false) := by rw [← hV]; exact blk_cell (blk_set bRY 0 _) rfl
              clear hV
              exact ⟨_, by simp [results, Tryd.results19, go_sem, z0]; rfl, Ret.mk (by rw [HV.out]) hBV⟩
            · have hokx : lineOk (x, px) := ⟨by simp only; omega, by simp only; omega, by have := HN1.out; simp only; omega⟩
              gi_wp2_with (first
                | (refine wpListIn_val rfl (fun c e => by cases e) rfl (exec_load_row (x := .tmp 25) rfl rfl hrow Tryd.underlying45 rfl ix) ?_)
                | (refine wpListIn_val rfl (fun c e => by cases e) rfl (exec_new lnZ rfl _) ?_)
                | (refine wpListIn_skip rfl (fun c e => by cases e) rfl (exec_store_row (x := .tmp 4) (y := .tmp 26) rfl rfl rfl (heap_alloc_new _ _) jx rfl ox) ?_)
                | fail)
              go_roundw
              case rel =>
                refine ⟨i + 1, by omega, by go_num, fun k r hk hkr => ?_, hbY1⟩
                rcases Nat.lt_or_ge k i with h | h
                · exact HOK.out k r h hkr
                · obtain rfl : k = i := by omega
                  rw [HX.out] at hkr
                  cases hkr
                  exact hokx
              case measure => simp [intOf]; omega
      · obtain rfl : i = n := by omega
        have g4 : ¬ (i : Int) < i := by omega
        have hall : ∀ r ∈ l, lineOk r := fun r hr => by
          obtain ⟨k, hk, rfl⟩ := List.getElem_of_mem hr
          exact HOK.out k _ (by have := HL.out.2; omega) (List.getElem?_eq_getElem hk)
        have HALL := Lib.hid hall
        clear hall
        have s0 : wr.cell? ⟨w.heap.size, 0, none⟩ = some (.int .i64 num) := blk_cell bSw rfl
        have s1 : wr.cell? ⟨w.heap.size, 1, none⟩ = some (.slice A i c) := blk_cell bSw rfl
        gi_wp2_with fail
        refine ⟨trivial, ?_⟩
        refine (callsIn_wide.2 (hps _ _)).mono ?_
        rintro e w' ⟨rfl, rfl⟩
        obtain ⟨W2, hW2⟩ : ∃ q, wr.alloc (.cells #[.int .i64 num, .slice A i c] 24) = q := ⟨_, rfl⟩
        rw [hW2]
        have bP : W2.heap[wr.heap.size]? = some (.cells #[.int .i64 num, .slice A i c] 24) := by rw [← hW2]; exact heap_alloc_new _ _
        have hB2 : Below wr.heap.size wr W2 := by rw [← hW2]; exact (Below.refl _ _).alloc (Nat.le_refl _) _
        have bR2 := bBlk hB2 (by omega) bRw
        have hBw2 : Below w.heap.size w W2 := hbw.trans (hB2.mono (by omega))
        have hz2 : wr.heap.size < W2.heap.size := (Array.getElem?_eq_some_iff.1 bP).1
        clear hW2
        gi_wp2
        let X : Nat → Prop := fun k => k < w.heap.size ∨ k = wr.heap.size
        have hXW : ∀ k, X k → k < W2.heap.size := fun k hk => by simp only [X] at hk; omega
        have hXs : ∀ k, X k → ¬ (k = w.heap.size + 1) := fun k hk => by simp only [X] at hk; omega
        let act : PC → Nat → Act := fun p g => ⟨#[.agg #[.int .i64 num, .slice A i c], .pointer (some ⟨w.heap.size, 0, none⟩), .pointer (some ⟨w.heap.size + 1, 0, none⟩), undef, u4, .pointer (some ⟨g, 0, none⟩), .pointer (some ⟨w.heap.size, 0, none⟩), .int .i64 num, .bool false, .bool false, .pointer (some ⟨w.heap.size, 0, none⟩), .int .i64 num, .bool false, .bool false, .bool false, .pointer (some ⟨w.heap.size, 1, none⟩), .slice A i c, .int .i64 i, .bool false, .bool false, .pointer (some ⟨w.heap.size, 1, none⟩), .slice A i c, .int .i64 i, .int .i64 i, .bool false, u25, u26, u27, u28, u29, u30, u31, u32, u33, u34, u35, u36, u37, u38, u39, u40, u41, .agg #[.int .i64 num, .slice A i c], .func (.func 32) #[] #[.pointer (some ⟨wr.heap.size, 0, none⟩)], .agg p.cells.toArray, undef, undef, undef, undef, undef, undef, undef, undef, undef, undef, undef, undef, undef, undef, undef, undef, undef, undef, undef, undef, undef, undef, undef, undef, undef], []⟩
        refine wpIn_rangeFunc_ownH rfl (by omega) (gf := 32) (lb := #[.pointer (some ⟨wr.heap.size, 0, none⟩)]) rfl trivial (enters_of Tryd.func32 (by kernel_rfl) rfl)
          (pieces_stops wr.heap.size w.heap.size i c A (.int .i64 num) l (by omega) X (fun k hk => .inl hk) (.inr rfl) W2 hXW (HL.out.1.below hBw2) bP)
          (fun h k => h.trans k) (fun W l o o' hl h a c => ⟨Hold.obj (w := W2) hXW W l o o' hl h a c, by simp⟩) (Below.refl _ _) (fun _ => rfl)
          (fun (pre : List PC) W => (∀ p ∈ pre, pcOk p) ∧ But W2.heap.size (fun _ => False) W2 W)
          (fun c pre W => (c = .ret ∧ ∃ p ∈ pre, ¬ pcOk p) ∧ W.heap[w.heap.size + 1]? = some (.cells #[.bool false] 4) ∧ But W2.heap.size (· = w.heap.size + 1) W2 W)
          (OwnFrom.and (fun _ _ _ _ h _ _ => h) (But.own (a := W2) (n := W2.heap.size) (X := fun _ => False) (Nat.le_refl _) (Nat.le_refl _)))
          (fun c => OwnFrom.and (fun _ _ _ _ h _ _ => h) (OwnFrom.and (fun pre W W' row h hg hr => (hg.block (w.heap.size + 1) (Array.getElem?_eq_some_iff.1 h).1 (fun e => by have := (hr _ e.symm).1; omega)).trans h) (But.own (a := W2) (n := W2.heap.size) (X := (· = w.heap.size + 1)) (Nat.le_refl _) (Nat.le_refl _))))
          ⟨fun _ h => (by simp at h), But.refl _ _ _⟩
          (fun (p : PC) a' W => ∃ g, a' = act p g ∧ W2.heap.size ≤ g ∧ W.heap[g]? = some (.cells p.cells.toArray 47))
          (fun p a' _ W W' row h hgr hr => by
            obtain ⟨g, e, hg, hb⟩ := h
            refine ⟨g, e, hg, (hgr.block g (Array.getElem?_eq_some_iff.1 hb).1 (fun e' => ?_)).trans hb⟩
            obtain ⟨_, o, ho, hc⟩ := hr g e'.symm
            rw [hb] at ho; cases ho; cases hc)
          ?assign ?body ?done ?stop
        case assign =>
          rintro l0 pre p W K ⟨hs, hB⟩ hK
          have hsz := hB.size
          obtain ⟨g, hg⟩ : ∃ g, W.heap.size = g := ⟨_, rfl⟩
          simp only [pcv, PC.cells]
          gi_wp2
          refine hK _ _ (((KeepsOthers.alloc W _)).from _) ⟨Hold.of_but (But.alloc (But.refl W2.heap.size (fun _ => False) W) hsz _) (fun k hk => ⟨hXW k hk, id⟩), by simp⟩ ⟨hs, hB.alloc hsz _⟩ ⟨g, rfl, by omega, by subst hg; exact heap_alloc_new _ _⟩
        case body =>
          rintro l0 pre p a' W hl0 - ⟨hs, hB⟩ ⟨g, rfl, hg, bx⟩ hlt
          have hsz := hB.size
          have hHS := Lib.hid hs
          clear hs
          have x0 : W.cell? ⟨g, 0, none⟩ = some (.int .i64 p.x) := blk_cell bx rfl
          have x1 : W.cell? ⟨g, 1, none⟩ = some (.string p.s) := blk_cell bx rfl
          have bRw := hB.blk (by omega) id bR2
          have r0 := blk_cell bRw (k := 0) rfl
          have f0 := blk_frozen bRw 0
          have hTW : Tabs W := HT.out.below (hBw2.trans (hB.below (by omega) (fun k e => e.elim)))
          have HTW := Lib.hid hTW
          clear hTW
          have HBX : Hid (But W2.heap.size (fun i => i = w.heap.size + 1) W2 W) := Lib.hid ⟨hB.os, hB.tape, hB.output, hB.size, fun i hi _ => hB.block i hi id⟩
          obtain ⟨V, hV⟩ : ∃ V, W.setCell ⟨w.heap.size + 1, 0, none⟩ (.bool false) = V := ⟨_, rfl⟩
          have hbV : But W2.heap.size (fun i => i = w.heap.size + 1) W V := by rw [← hV]; exact But.set (X := (· = w.heap.size + 1)) (But.refl _ _ _) (p := ⟨w.heap.size + 1, 0, none⟩) rfl _
          have hkV : KeepsOthers W V := by rw [← hV]; exact KeepsOthers.setCell _ _ _
          have hvV : V.heap[w.heap.size + 1]? = some (.cells #[.bool false] 4) := by rw [← hV]; exact blk_set bRw 0 _
          have HBAD : Hid (¬ pcOk p → KeepsFrom W2.heap.size W V ∧ ((Code.ret = .ret ∧ ∃ q ∈ pre ++ [p], ¬ pcOk q) ∧ V.heap[w.heap.size + 1]? = some (.cells #[.bool false] 4) ∧ But W2.heap.size (· = w.heap.size + 1) W2 V)) :=
            Lib.hid fun h => ⟨hkV.from _, ⟨rfl, p, List.mem_append.2 (.inr (List.mem_singleton.2 rfl)), h⟩, hvV, HBX.out.trans hbV⟩
          have HOKP : Hid (∀ V, pcOk p → Below W.heap.size W V → KeepsFrom W2.heap.size W V ∧ HoldS X W V ∧ (∀ q ∈ pre ++ [p], pcOk q) ∧ But W2.heap.size (fun _ => False) W2 V) := Lib.hid fun V h hb =>
            ⟨⟨hb.size, fun k o _ ho _ => (hb.block k (Array.getElem?_eq_some_iff.1 ho).1).trans ho⟩, HoldS.of_below hb (fun k hk => by have := hXW k hk; omega), fun q hq => by
              rcases List.mem_append.1 hq with h2 | h2
              · exact hHS.out q h2
              · rw [List.mem_singleton.1 h2]; exact h, hB.trans ⟨hb.os, hb.tape, hb.output, hb.size, fun k hk _ => hb.block k (by omega)⟩⟩
          clear hbV hkV hvV
          simp only [act, PC.cells]
          have HV1 := Lib.hid hV
          clear hV
          have hV := HV1.out
          by_cases d1 : p.x < 0
          · gi_wp2
            refine ⟨trivial, ?_⟩
            gi_wp2
            try rw [hV]
            obtain ⟨q1, ⟨-, q2⟩, q3, q4⟩ := HBAD.out (fun h => by have := h.1; omega)
            exact ⟨q1, ⟨rfl, q2⟩, q3, q4⟩
          · by_cases d2 : 65535 < p.x
            · gi_wp2
              refine ⟨trivial, ?_⟩
              gi_wp2
              try rw [hV]
              obtain ⟨q1, ⟨-, q2⟩, q3, q4⟩ := HBAD.out (fun h => by have := h.2.1; omega)
              exact ⟨q1, ⟨rfl, q2⟩, q3, q4⟩
            · by_cases d3 : p.s.size = 0
              · have e0 : p.s.toList = [] := by
                  rw [ByteArray.toList_eq]
                  exact List.eq_nil_of_length_eq_zero d3
                gi_wp2
                refine ⟨trivial, ?_⟩
                gi_wp2
                try rw [hV]
                obtain ⟨q1, ⟨-, q2⟩, q3, q4⟩ := HBAD.out (fun h => by have := h.2.2.1; omega)
                exact ⟨q1, ⟨rfl, q2⟩, q3, q4⟩
              · have e1 : ¬ p.s.toList = [] := by
                  rw [ByteArray.toList_eq]
                  intro e
                  exact d3 (show p.s.data.toList.length = 0 by rw [e]; rfl)
                have e2 : p.s.toList.isEmpty = false := by simpa using e1
                by_cases d4 : (255 : Int) < p.s.size
                · gi_wp2
                  refine ⟨trivial, ?_⟩
                  gi_wp2
                  try rw [hV]
                  obtain ⟨q1, ⟨-, q2⟩, q3, q4⟩ := HBAD.out (fun h => by have := h.2.2.2.1; omega)
                  exact ⟨q1, ⟨rfl, q2⟩, q3, q4⟩
                · have hsz9 : p.s.size ≤ 9223372036854775807 := by omega
                  have hv := valid_any p.s W hsz9 HTW.out
                  by_cases d5 : Lib.validD p.s.data.toList = true
                  · rw [d5] at hv
                    have hpok : pcOk p := ⟨by omega, by omega, by omega, by omega, d5⟩
                    clear hV
                    gi_wp2_with fail
                    refine ⟨trivial, (callsIn_wide.2 hv).inRound l0 |>.mono ?_⟩
                    rintro e w3 ⟨rfl, hb3⟩
                    gi_wp2
                    obtain ⟨q1, q2, q3, q4⟩ := HOKP.out _ hpok hb3
                    exact ⟨q1, q2, fun q hq => q3 q (by simpa using hq), q4⟩
                  · have d6 : Lib.validD p.s.data.toList = false := by simpa using d5
                    rw [d6] at hv
                    clear hV r0 f0 x0 x1
                    have x0 : W.cell? ⟨g, 0, none⟩ = some (.int .i64 p.x) := blk_cell bx rfl
                    have x1 : W.cell? ⟨g, 1, none⟩ = some (.string p.s) := blk_cell bx rfl
                    gi_wp2_with fail
                    refine ⟨trivial, (callsIn_wide.2 hv).inRound l0 |>.mono ?_⟩
                    rintro e w3 ⟨rfl, hb3⟩
                    have bR3 := bBlk hb3 (by omega) bRw
                    have r3 := blk_cell bR3 (k := 0) rfl
                    have f3 := blk_frozen bR3 0
                    have h3W : But W2.heap.size (fun i => i = w.heap.size + 1) W w3 := ⟨hb3.os, hb3.tape, hb3.output, hb3.size, fun k hk _ => hb3.block k (by omega)⟩
                    gi_wp2
                    obtain ⟨q1, ⟨-, q2⟩, q3, q4⟩ := HBAD.out (fun h => by have := h.2.2.2.2; rw [d6] at this; cases this)
                    refine ⟨⟨by simp; exact hb3.size, fun k o hk ho hc => ?_⟩, ⟨rfl, q2⟩, blk_set bR3 0 _, HBX.out.trans (h3W.trans (But.set (X := (· = w.heap.size + 1)) (But.refl _ _ _) (p := ⟨w.heap.size + 1, 0, none⟩) rfl _))⟩
                    have hk2 : k < W.heap.size := (Array.getElem?_eq_some_iff.1 ho).1
                    exact (KeepsOthers.setCell w3 ⟨w.heap.size + 1, 0, none⟩ (.bool false)).same k o ((hb3.block k hk2).trans ho) hc
        case done =>
          rintro D ys W hD rfl ⟨hs, hB⟩ hK
          have HV : Hid (mayP num l = true) := Lib.hid (mayP_yes ⟨⟨m1, m2, by have := HL.out.2; omega⟩, HALL.out, hs⟩)
          have bRw := hB.blk (by omega) id bR2
          have r0 := blk_cell bRw (k := 0) rfl
          have f0 := blk_frozen bRw 0
          have d1 : w.heap.size + 1 ≠ D := by omega
          have hBW : Below w.heap.size w W := hBw2.trans (hB.below (by omega) (fun i e => e.elim))
          gi_wp2
          obtain ⟨V, hV⟩ : ∃ V, W.setCell ⟨w.heap.size + 1, 0, none⟩ (.bool true) = V := ⟨_, rfl⟩
          rw [hV]
          have hBV : Below w.heap.size w V := by rw [← hV]; exact hBW.setCell (p := ⟨w.heap.size + 1, 0, none⟩) (by show w.heap.size ≤ w.heap.size + 1; omega) _
          have z9 : V.heap[w.heap.size + 1]? = some (.cells #[.bool true] 4) := by rw [← hV]; exact blk_set bRw 0 _
          have hK9 : V.heap[D]? = some (.deferred (some [])) := by rw [← hV]; exact blk_far hK _ d1.symm
          clear hV
          refine ⟨by simp, .inl ⟨_, _, rfl, run_takeDeferred hK9, ?_⟩⟩
          have hBp := hBV.trans (belowK_b (w := w) (Nat.le_refl _) V D _ (.deferred none) (by omega) hK9 rfl rfl)
          have z0 := blk_cell (blk_put (o' := .deferred none) z9 d1) (k := 0) rfl
          exact ⟨_, by simp [results, Tryd.results19, go_sem, z0]; rfl, Ret.mk (by rw [HV.out]) hBp⟩
        case stop =>
          rintro D c pre W hD ⟨t, ht⟩ ⟨⟨rfl, p, hp, hbad⟩, z9, hB⟩ hK
          have HV : Hid (mayP num l = false) := Lib.hid (mayP_no (fun hm => hbad (hm.2.2 _ (by rw [ht]; exact List.mem_append.2 (.inl hp)))))
          have d1 : w.heap.size + 1 ≠ D := by omega
          have hBW : Below w.heap.size w W := hBw2.trans (hB.below (by omega) (fun i e => by omega))
          gi_wp2
          refine ⟨by simp, .inl ⟨_, _, rfl, run_takeDeferred hK, ?_⟩⟩
          have hBp := hBW.trans (belowK_b (w := w) (Nat.le_refl _) W D _ (.deferred none) (by omega) hK rfl rfl)
          have z0 := blk_cell (blk_put (o' := .deferred none) z9 d1) (k := 0) rfl
          exact ⟨_, by simp [results, Tryd.results19, go_sem, z0]; rfl, Ret.mk (by rw [HV.out]) hBp⟩
  · have HV : Hid (mayP num l = false) := Lib.hid (mayP_no (fun h => hbad ⟨h.1.1, h.1.2.1, by have := h.1.2.2; have := HL.out.2; omega⟩))
    by_cases b1 : num < 1
    · gi_wp2
      obtain ⟨V, hV⟩ : ∃ V, World.alloc (World.alloc w (.cells #[.int .i64 num, .slice A n c] 24)) (.cells #[.bool false] 4) = V := ⟨_, rfl⟩
      rw [hV]
      have hBV : Below w.heap.size w V := by rw [← hV]; exact ((Below.refl _ w).alloc (Nat.le_refl _) _).alloc (by simp) _
      have z0 : V.cell? ⟨w.heap.size + 1, 0, none⟩ = some (.bool false) := by rw [← hV]; exact blk_cell (heap_alloc_new2 _ _ _) rfl
      clear hV
      exact ⟨_, by simp [results, Tryd.results19, go_sem, z0]; rfl, Ret.mk (by rw [HV.out]) hBV⟩
    · by_cases b2 : 255 < num
      · gi_wp2
        obtain ⟨V, hV⟩ : ∃ V, World.alloc (World.alloc w (.cells #[.int .i64 num, .slice A n c] 24)) (.cells #[.bool false] 4) = V := ⟨_, rfl⟩
        rw [hV]
        have hBV : Below w.heap.size w V := by rw [← hV]; exact ((Below.refl _ w).alloc (Nat.le_refl _) _).alloc (by simp) _
        have z0 : V.cell? ⟨w.heap.size + 1, 0, none⟩ = some (.bool false) := by rw [← hV]; exact blk_cell (heap_alloc_new2 _ _ _) rfl
        clear hV
        exact ⟨_, by simp [results, Tryd.results19, go_sem, z0]; rfl, Ret.mk (by rw [HV.out]) hBV⟩
      · have b3 : (20 : Int) < n := by omega
        gi_wp2
        obtain ⟨V, hV⟩ : ∃ V, World.alloc (World.alloc w (.cells #[.int .i64 num, .slice A n c] 24)) (.cells #[.bool false] 4) = V := ⟨_, rfl⟩
        rw [hV]
        have hBV : Below w.heap.size w V := by rw [← hV]; exact ((Below.refl _ w).alloc (Nat.le_refl _) _).alloc (by simp) _
        have z0 : V.cell? ⟨w.heap.size + 1, 0, none⟩ = some (.bool false) := by rw [← hV]; exact blk_cell (heap_alloc_new2 _ _ _) rfl
        clear hV
        exact ⟨_, by simp [results, Tryd.results19, go_sem, z0]; rfl, Ret.mk (by rw [HV.out]) hBV⟩
end Go.Proofs.YtiffcdeagckgmaaDoor
