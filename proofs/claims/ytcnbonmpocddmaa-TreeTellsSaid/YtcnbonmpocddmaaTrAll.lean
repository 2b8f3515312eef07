/- tree.Nodes. -/
import Derived.Test.YtcnbonmpocddmaaTrSeq
namespace Go.Proofs.Ytcnbonmpocddmaa
set_option linter.unusedSimpArgs false
set_option linter.unusedVariables false
open Go.RowKit Go.Shelf Go.Sort
attribute [local go_sem] Oper.semAt_some
attribute [-go_sem] Builtin.append_

def allN (l : List (List UInt8)) : List (List UInt8) := if l.length ≤ 1000 then (levelsT nK 7 0 l).flatten else []
/-- x's texts go behind v's -/
theorem NdS.cat {V0 V w1 : World} {lo B : Nat} {v v' vx : Value} {ns nx : List (List UInt8)} {L Lx : List SlB} (h0 : v.ownBlock = none ∨ ∃ g, v.ownBlock = some g ∧ g < V0.heap.size) (h : NdS V lo v ns L) (hlo : lo ≤ V0.heap.size) (hV : V0.heap.size ≤ V.heap.size) (hx : NdS V V0.heap.size vx nx Lx)
    (hBn : B < lo) (hown : w1.ownsRow lo 23 1 v' (ns.length + nx.length) (L.map slv ++ Lx.map slv)) (hg : V.grownBy w1 v.ownBlock) (hat : v'.ownBlock = v.ownBlock ∨ v'.ownBlock = some V.heap.size) :
    NdS (w1.setCell ⟨B, 0, none⟩ v') lo v' (ns ++ nx) (L ++ Lx) ∧ NdS (w1.setCell ⟨B, 0, none⟩ v') V0.heap.size vx nx Lx := by
  have hne : ∀ b, V0.heap.size ≤ b → v.ownBlock ≠ some b := fun b hb e => by
    rcases h0 with h0 | ⟨g, e2, hg⟩
    · rw [h0] at e; cases e
    · rw [e2] at e; cases e; omega
  have hblk : ∀ (b : Nat) (o : Obj), lo ≤ b → v.ownBlock ≠ some b → V.heap[b]? = some o → (w1.setCell ⟨B, 0, none⟩ v').heap[b]? = some o := fun b o h1 h2 h3 =>
    (Below.heap_setCell w1 _ _ b (by show b ≠ B; omega)).trans ((hg.block b (Array.getElem?_eq_some_iff.1 h3).1 (fun e => h2 e.symm)).trans h3)
  have hv' : ∀ b, b < V.heap.size → v.ownBlock ≠ some b → v'.ownBlock ≠ some b := fun b h1 h2 h3 => by
    rcases hat with e | e
    · exact h2 (e ▸ h3)
    · rw [e] at h3
      have : V.heap.size = b := by simpa using h3
      omega
  refine ⟨⟨?_, by rw [ndT, List.map_append, ← h.txt, ← hx.txt]; rfl, fun y hy => ?_⟩, ⟨?_, hx.txt, fun y hy => ?_⟩⟩
  · rw [List.length_append, List.map_append]
    refine hown.kept (grownBy_setCell' w1 B v') (.inr fun e => ?_)
    have := own_ge hown B e
    omega
  · rcases List.mem_append.1 hy with hy | hy
    · exact (h.each y hy).kept (fun b o h1 h2 h3 _ => hblk b o h1 h2 h3) hv'
    · obtain ⟨⟨b, cur, e, h1, h2, h3, h4⟩, hc, hm⟩ := hx.each y hy
      exact ⟨⟨b, cur, e, by omega, hv' b (Array.getElem?_eq_some_iff.1 h3).1 (hne b h1), hblk b _ (by omega) (hne b h1) h3, h4⟩, hc, hm⟩
  · refine ⟨hx.own.1, ?_⟩
    rcases hx.own.2 with e | ⟨g, cap, cur, e, h2, h3, h4⟩
    · exact .inl e
    · exact .inr ⟨g, cap, cur, e, h2, hblk g _ (by omega) (hne g h2) h3, h4⟩
  · exact (hx.each y hy).kept (fun b o h1 h2 h3 _ => hblk b o (by omega) (hne b h1) h3) (fun _ _ h => h)
def lvAll (xs : List LvV) : List (List UInt8) := (xs.map (·.2.1)).flatten
theorem lvAll_snoc (pre : List LvV) (x : LvV) : lvAll (pre ++ [x]) = lvAll pre ++ x.2.1 := by simp [lvAll]

set_option maxRecDepth 100000 in
set_option maxHeartbeats 8000000 in
theorem allnodes_any {A : Option Addr} {n c : Nat} {l : List (List UInt8)} (w : World) (hl : DgAt w w.heap.size A n c l) (hn : n ≤ 1000000) :
    Calls Try.prog 12 #[.slice A n c] w (NdsP w (allN l)) := by
  have hlen := hl.len
  by_cases hk : n ≤ 1000
  · have hall : allN l = (levelsT nK 7 0 l).flatten := by unfold allN; rw [if_pos (by omega)]
    rw [hall]
    have i1 : ¬ (1000 : Int) < (n : Int) := by omega
    have hcnt : (levelsT nK 7 0 l).length ≤ 7 := by rw [levelsT_len _ _ _ _ (by omega) (by unfold lvN; (repeat' split) <;> omega)]; unfold lvN; (repeat' split) <;> omega
    have HL := Lib.hid hl
    clear hl hall
    refine (callsIn_wide (n := 12)).1 ?_
    refine callsIn_of_wp_marks Try.func12 rfl trivial ?_ rfl
    simp only [Try.ntmps12, List.size_toArray, List.length_cons, List.length_nil, Nat.reduceAdd, Nat.reduceSub, Array.replicate_succ, Array.replicate_zero, List.push_toArray, List.append_toArray, List.nil_append, List.cons_append]
    gi_wp2_with fail
    refine ⟨trivial, ?_⟩
    refine ((callsIn_wide (n := 11)).2 (levels_it _ _ _ _)).mono ?_
    rintro e w' ⟨rfl, rfl⟩
    gi_wp2
    obtain ⟨W1, hW1⟩ : ∃ W1, (w.alloc (.cells #[.slice none 0 0] 35)).alloc (.cells #[.slice A n c] 22) = W1 := ⟨_, rfl⟩
    try rw [hW1]
    have hz : W1.heap.size = w.heap.size + 2 := by rw [← hW1]; simp
    have bO : Boxed W1 w.heap.size 35 (.slice none 0 0) := by
      rw [← hW1]; have := (Boxed.new w 35 (.slice none 0 0)).alloc (.cells #[.slice A n c] 22); simpa using this
    have bX : Boxed W1 (w.heap.size + 1) 22 (.slice A n c) := by
      rw [← hW1]; have := Boxed.new (w.alloc (.cells #[.slice none 0 0] 35)) 22 (.slice A n c); simpa using this
    have hB0 : Below w.heap.size w W1 := by rw [← hW1]; exact ((Below.refl _ w).alloc (Nat.le_refl _) _).alloc (by simp) _
    clear hW1
    refine wpIn_rangeFunc_R rfl (by omega) (gf := 27) (lb := #[.pointer (some ⟨w.heap.size + 1, 0, none⟩)]) rfl trivial (enters_of Try.func27 (by kernel_rfl) rfl)
      (BX := w.heap.size + 1) (by omega) (levels_seq (by omega) (HL.out.nxt hB0) hk bX) (fun _ => rfl)
      (fun lo x => by
        intro s X Y row h hg hr
        exact ⟨ndS_grown h.1 hg (fun r e => (hr r e).2), h.2⟩)
      (fun xs V => (∃ v L, Boxed V w.heap.size 35 v ∧ NdS V (W1.heap.size + 2) v (lvAll xs) L) ∧ But W1.heap.size (fun k => k = w.heap.size ∨ k = w.heap.size + 1) W1 V ∧ (lvAll xs).length ≤ 1000 * xs.length)
      (((nds_own (W1.heap.size + 2) w.heap.size lvAll).from _).and ((But.own (a := W1) (n := W1.heap.size) (Nat.le_refl _) (Nat.le_refl _)).and (fun _ _ _ _ h _ _ => h)))
      ⟨⟨_, [], bO, nds_nil _ _⟩, But.refl _ _ _, by simp [lvAll]⟩
      ?a1 ?assign ?body ?done
    case assign =>
      intro l0 x W K hK
      gi_wp2
      exact hK
    case body =>
      rintro l0 pre x V0 V ⟨⟨v, L, hv, hnd⟩, hB, hpl⟩ hlt hV0 hBV ⟨hrd, hxl⟩
      obtain ⟨x1, nx, Lx⟩ := x
      obtain ⟨Ax, cx, hx1, -⟩ := own_form hrd.own
      simp only at hx1 hxl hrd
      subst hx1
      have hlx : Lx.length = nx.length := by rw [← hrd.txt, ndT, List.length_map]
      have hll : L.length = (lvAll pre).length := by rw [← hnd.txt, ndT, List.length_map]
      have hsV := hBV.size
      have hndV : NdS V (W1.heap.size + 2) v (lvAll pre) L := hnd.but hBV (Nat.le_refl _) (fun k e => by omega)
      have hvV : Boxed V w.heap.size 35 v := hBV.boxed (by omega) (by omega) hv
      have hown0 : v.ownBlock = none ∨ ∃ g, v.ownBlock = some g ∧ g < V0.heap.size := by
        cases hg : v.ownBlock with
        | none => exact .inl rfl
        | some g => exact .inr ⟨g, rfl, (hnd.own.lt g hg).2⟩
      have hsn := lvAll_snoc pre (.slice Ax nx.length cx, nx, Lx)
      have hslx : Sl V V.heap.size 1 Ax nx.length (Lx.map slv) := Sl.of_own hrd.own
      obtain ⟨A', c', w1, hrun, hown', hgrow, hat⟩ := run_app (P := Try.prog) V (ty := 35) (t := 35) Try.underlying35 elemS hndV.own hslx (c := cx) (fun u hu => by obtain ⟨y, -, rfl⟩ := List.mem_map.1 hu; rfl) (by simp only [maxLen]; omega) (by omega) (by omega)
      have hcat := hndV.cat (B := w.heap.size) hown0 (by omega) hsV hrd (by omega) hown' hgrow hat
      have hvn : ∀ j, v.ownBlock = some j → W1.heap.size + 2 ≤ j := own_ge hndV.own
      have hbx1 : Boxed w1 w.heap.size 35 v := hvV.kept hgrow (fun e => by have := hvn _ e.symm; omega)
      have hcV := hvV.cell
      have hc1 := hbx1.cell
      have hf1 := hbx1.frozen
      obtain ⟨W9, hW9⟩ : ∃ q, w1.setCell ⟨w.heap.size, 0, none⟩ (.slice A' ((lvAll pre).length + nx.length) c') = q := ⟨_, rfl⟩
      have hkeep : KeepsFrom W1.heap.size V W9 := by
        rw [← hW9]
        refine ⟨by have := hgrow.size; simp; omega, fun k o hk ho hc => ?_⟩
        refine (Below.heap_setCell w1 _ _ k (by show k ≠ w.heap.size; omega)).trans ((hgrow.block k (Array.getElem?_eq_some_iff.1 ho).1 (fun e => ?_)).trans ho)
        rcases hndV.own.2 with ⟨rfl, _⟩ | ⟨g, cap, cur, rfl, _, hgb, _⟩
        · cases e
        · have : k = g := by simpa [Value.ownBlock] using e
          rw [this, hgb] at ho; cases ho; cases hc
      have hbx9 : Boxed W9 w.heap.size 35 (.slice A' ((lvAll pre).length + nx.length) c') := by rw [← hW9]; exact hbx1.set _
      have hBX9 : W9.heap[w.heap.size + 1]? = V.heap[w.heap.size + 1]? := by
        rw [← hW9]
        have : w.heap.size + 1 < V.heap.size := by omega
        exact (Below.heap_setCell w1 _ _ _ (by show w.heap.size + 1 ≠ w.heap.size; omega)).trans (hgrow.block _ this (fun e => by have := hvn _ e.symm; omega))
      have hB9 : But W1.heap.size (fun k => k = w.heap.size ∨ k = w.heap.size + 1) W1 W9 := by
        rw [← hW9]
        have h1 : But W1.heap.size (fun k => k = w.heap.size ∨ k = w.heap.size + 1) V0 V := ⟨hBV.os, hBV.tape, hBV.output, hBV.size, fun k hk hx => hBV.block k (by omega) (fun e => hx (by omega))⟩
        exact ((hB.trans h1).grown hgrow (by omega) (fun j e => .inl (by have := hvn j e; omega))).set (p := ⟨w.heap.size, 0, none⟩) (.inl rfl) _
      rw [hW9] at hcat
      have HF := Lib.hid (show KeepsFrom W1.heap.size V W9 ∧ W9.heap[w.heap.size + 1]? = V.heap[w.heap.size + 1]? ∧ lvRd V0.heap.size (.slice Ax nx.length cx, nx, Lx) W9 ∧ ((∃ v L, Boxed W9 w.heap.size 35 v ∧ NdS W9 (W1.heap.size + 2) v (lvAll (pre ++ [(Value.slice Ax nx.length cx, nx, Lx)])) L) ∧ But W1.heap.size (fun k => k = w.heap.size ∨ k = w.heap.size + 1) W1 W9 ∧ (lvAll (pre ++ [(Value.slice Ax nx.length cx, nx, Lx)])).length ≤ 1000 * (pre ++ [(Value.slice Ax nx.length cx, nx, Lx)]).length) from
        ⟨hkeep, hBX9, ⟨hcat.2, hxl⟩, ⟨_, L ++ Lx, hbx9, by rw [hsn]; exact hcat.1⟩, hB9, by rw [hsn, List.length_append, List.length_append]; simp only [List.length_singleton]; omega⟩)
      clear hkeep hbx9 hBX9 hB9 hcat hbx1 hvn hown' hgrow hat hsn hslx hown0 hvV hndV hlx hll hrd hv hnd hB hpl bO bX hB0 hBV
      gi_wp2_with (first | rw [hW9] | fail)
      exact HF.out
    case done =>
      rintro D xs V0 V rfl hS ⟨⟨v, L, hv, hnd⟩, hB, -⟩ hV0 hBV hK
      have hndV : NdS V (W1.heap.size + 2) v (lvAll xs) L := hnd.but hBV (Nat.le_refl _) (fun k e => by omega)
      have hvV : Boxed V w.heap.size 35 v := hBV.boxed (by omega) (by omega) hv
      have hb2 : Below w.heap.size V0 V := ⟨hBV.os, hBV.tape, hBV.output, hBV.size, fun k hk => hBV.block k (by omega) (fun e => by omega)⟩
      have hBW : Below w.heap.size w V := hB0.trans ((hB.below (by omega) (fun k e => by omega)).trans hb2)
      rw [show lvAll xs = (levelsT nK 7 0 l).flatten from by rw [lvAll, hS]] at hndV
      have hc := hvV.cell
      have HH := Lib.hid (And.intro hndV (And.intro hBW hK))
      clear hnd hBW hK hv hB bO bX hB0 HL hndV hvV hBV hb2 hS
      gi_wp2_with fail
      obtain ⟨hnd, hBW, hK⟩ := HH.out
      refine ⟨by simp, .inl ⟨_, _, rfl, run_takeDeferred hK, ?_⟩⟩
      have hBp := hBW.trans (belowK_b (w := w) (Nat.le_refl _) V _ _ (.deferred none) (by omega) hK rfl rfl)
      refine ⟨_, by simp [results, Try.results12, go_sem]; rfl, _, L, rfl, ?_, hBp⟩
      exact (hnd.putObj hK rfl).base (by omega)
  · have hall : allN l = [] := by unfold allN; rw [if_neg (by omega)]
    rw [hall]
    have i1 : (1000 : Int) < (n : Int) := by omega
    clear hl hall hk
    go_enter Try.func12, Try.ntmps12
    go_wp2_with fail
    go_ret
    exact ⟨_, [], rfl, nds_nil _ _, (by repeat (first | (with_reducible exact Below.refl _ _) | (with_reducible refine bDrewN ?_ _) | (with_reducible refine Below.drew ?_) | (with_reducible refine Below.alloc ?_ ?_ _) | (with_reducible refine Below.setCell ?_ ?_ _) | (with_reducible assumption) | go_size))⟩
end Go.Proofs.Ytcnbonmpocddmaa
