/- The walks over a paragraph's words: of, pen, cost, line, boxed. -/
import Derived.Test.YtnojikbecohhfaaBkPlain
import Derived.Test.YtnojikbecohhfaaMsrLine2
import Derived.Test.YtnojikbecohhfaaBadDem
import Derived.Test.YtnojikbecohhfaaMany
import Derived.Test.YtnojikbecohhfaaAuto
namespace Go.Proofs.Ytnojikbecohhfaa
set_option linter.unusedSimpArgs false
set_option linter.unusedVariables false
open Go.RowKit Go.Sort

def pgv (A : Option Addr) (n c : Nat) (wd tl : Int) : Value := .agg #[.slice A n c, .int .i64 wd, .int .i64 tl]
theorem pgbox (w : World) (A : Option Addr) (n c : Nat) (wd tl : Int) : ∃ V, w.alloc (.cells #[.slice A n c, .int .i64 wd, .int .i64 tl] 59) = V ∧ V.heap[w.heap.size]? = some (.cells #[.slice A n c, .int .i64 wd, .int .i64 tl] 59) ∧ Below w.heap.size w V :=
  ⟨_, rfl, heap_alloc_new _ _, (Below.refl _ _).alloc (Nat.le_refl _) _⟩
def cutS (v : Int) : Int := cutZ v 0 10000
set_option maxHeartbeats 4000000 in
set_option maxRecDepth 100000 in
theorem of_any' {A : Option Addr} {n c : Nat} (sw sh st sc si : Int) (w : World) :
    Calls Try.prog 26 #[.slice A n c, .agg #[.int .i64 sw, .int .i64 sh, .int .i64 st, .int .i64 sc, .int .i64 si]] w (Ret w (pgv A n c (cutS sw) (cutS st))) := by
  unfold pgv cutS cutZ
  go_enter Try.func26, Try.ntmps26
  go_wp2_with fail
  refine bodyPost_ret (by simp [results, Try.results26, Act.put, go_sem]; try rfl) rfl ?_
  exact Ret.mk rfl (by repeat (first | (with_reducible exact Below.refl _ _) | (with_reducible refine bDrewN ?_ _) | (with_reducible refine Below.drew ?_) | (with_reducible refine Below.alloc ?_ ?_ _) | (with_reducible refine Below.setCell ?_ ?_ _) | (with_reducible assumption) | go_size))
set_option maxHeartbeats 4000000 in
set_option maxRecDepth 100000 in
theorem pen_any {A : Option Addr} {n c : Nat} {l : List It} {wd tl : Int} (p : Int) (hn : n ≤ 1000000) (w : World) (h : Sl w w.heap.size 6 A n (encs l)) :
    Calls Try.prog 54 #[pgv A n c wd tl, .int .i64 p] w (Ret w (.bool (penAt l p))) := by
  have hl := its_len h
  unfold pgv
  obtain ⟨R, hR⟩ : ∃ R, penAt l p = R := ⟨_, rfl⟩
  rw [hR]
  obtain ⟨V, hV, y2, hb⟩ := pgbox w A n c wd tl
  have c0 : V.cell? ⟨w.heap.size, 0, none⟩ = some (.slice A n c) := blk_cell y2 rfl
  have HB := Lib.hid hb
  by_cases h0 : 0 ≤ p
  · obtain ⟨k, rfl⟩ : ∃ k : Nat, p = k := ⟨p.toNat, by omega⟩
    by_cases hk : k < n
    · obtain ⟨x, hx⟩ := get_some (l := l) (k := k) (by omega)
      obtain ⟨b, o, rfl, hbw, q0, -⟩ := its_cells h hx
      have q0' := (hb.cell (p := ⟨b, o + k * 6, none⟩) hbw).trans q0
      have hRR : Hid ((x.kind == 3) = R) := Lib.hid (by rw [← hR]; unfold penAt; rw [decide_eq_true h0, Int.toNat_natCast, hx]; rfl)
      have i1 : (k : Int) < (n : Int) := by omega
      clear hR h hl hx q0 y2 hb
      go_enter Try.func54, Try.ntmps54
      go_wp2_with (first | rw [hV] | fail)
      go_ret
      exact Ret.mk (by rw [hRR.out]; rfl) HB.out
    · have i1 : ¬ (k : Int) < (n : Int) := by omega
      have hRR : Hid (R = false) := Lib.hid (by rw [← hR]; unfold penAt; rw [Int.toNat_natCast, List.getElem?_eq_none (by omega)]; simp)
      clear hR h hl y2 hb hk
      go_enter Try.func54, Try.ntmps54
      go_wp2_with (first | rw [hV] | fail)
      go_ret
      exact Ret.mk (by rw [hRR.out]; rfl) HB.out
  · have i1 : p < 0 := by omega
    have hRR : Hid (R = false) := Lib.hid (by rw [← hR]; unfold penAt; rw [decide_eq_false h0]; rfl)
    clear hR h hl y2 hb h0
    go_enter Try.func54, Try.ntmps54
    go_wp2_with (first | rw [hV] | fail)
    go_ret
    exact Ret.mk (by rw [hRR.out]; rfl) HB.out
theorem pg_load {V : World} {A : Option Addr} {n c B : Nat} {wd tl : Int} : (Try.prog.info? 59).map (·.size) = some (#[Value.slice A n c, .int .i64 wd, .int .i64 tl] : Array Value).size := by
  show _ = some 3
  kernel_rfl
set_option maxHeartbeats 4000000 in
set_option maxRecDepth 100000 in
theorem cost_any {A : Option Addr} {n c : Nat} {l : List It} {wd tl : Int} (p : Int) (hn : n ≤ 1000000) (w : World) (h : Sl w w.heap.size 6 A n (encs l)) :
    Calls Try.prog 53 #[pgv A n c wd tl, .int .i64 p] w (Ret w (.int .i64 (costAt l p))) := by
  have hl := its_len h
  obtain ⟨R, hR⟩ : ∃ R, costAt l p = R := ⟨_, rfl⟩
  rw [hR]
  obtain ⟨V, hV, y2, hb⟩ := pgbox w A n c wd tl
  have hpen := pen_any (c := c) (wd := wd) (tl := tl) p hn V (h.next hb)
  unfold pgv at hpen ⊢
  obtain ⟨T, hT⟩ : ∃ T, penAt l p = T := ⟨_, rfl⟩
  rw [hT] at hpen
  have HB := Lib.hid (And.intro hb (And.intro y2 (And.intro hR hT)))
  clear hR hb hT
  go_enter Try.func53, Try.ntmps53
  go_upto_region 1 with (first | rw [hV] | fail)
  refine wp_region_lit ?_
  refine wpList_load_row rfl 59 (.tmp 2) rfl _ rfl _ #[.slice A n c, .int .i64 wd, .int .i64 tl] (0, 0) _ y2 Try.underlying59 rfl (pg_load (V := V) (B := 0)) ?_
  (try simp only [Act.put, List.setIfInBounds_toArray, List.set_cons_zero, List.set_cons_succ])
  go_wp2_with fail
  refine Calls.mono hpen ?_
  rintro e V2 ⟨rfl, hb2⟩
  obtain ⟨hb, y2, hR, hT⟩ := HB.out
  have y22 := bBlk hb2 (Array.getElem?_eq_some_iff.1 y2).1 y2
  have c0 : V2.cell? ⟨w.heap.size, 0, none⟩ = some (.slice A n c) := blk_cell y22 rfl
  have HB2 := Lib.hid (bNext hb hb2)
  cases T
  · have HR := Lib.hid (show R = 0 by rw [← hR]; unfold costAt; rw [hT]; simp)
    clear hpen y22 y2 hb2 hb hR hT h
    go_wp2_with fail
    go_ret
    exact Ret.mk (by rw [HR.out]; rfl) HB2.out
  · have hp : 0 ≤ p ∧ ∃ x, l[p.toNat]? = some x := by
      have h2 := hT
      unfold penAt at h2
      rw [Bool.and_eq_true, decide_eq_true_eq] at h2
      refine ⟨h2.1, ?_⟩
      cases hx : l[p.toNat]? with
      | none => rw [hx] at h2; exact absurd h2.2 (by simp)
      | some x => exact ⟨x, rfl⟩
    obtain ⟨hp0, x, hx⟩ := hp
    obtain ⟨k, rfl⟩ : ∃ k : Nat, p = k := ⟨p.toNat, by omega⟩
    rw [Int.toNat_natCast] at hx
    have hk : k < n := by have := (List.getElem?_eq_some_iff.1 hx).1; omega
    obtain ⟨b, o, rfl, hbw, -, -, -, -, q4, -⟩ := its_cells h hx
    have q4' := ((bNext hb hb2).cell (p := ⟨b, o + k * 6 + 4, none⟩) hbw).trans q4
    have HR := Lib.hid (show R = pl x.cost by rw [← hR]; unfold costAt; rw [hT, if_pos rfl, Int.toNat_natCast, hx])
    have i1 : (k : Int) < (n : Int) := by omega
    have hpl := plain_any x.cost V2
    clear hpen y22 y2 hb2 hb hR hT h hl hx q4
    go_wp2_with fail
    refine Calls.mono hpl ?_
    rintro e w' ⟨rfl, rfl⟩
    go_wp2_with fail
    go_ret
    exact Ret.mk (by rw [HR.out]; rfl) HB2.out
set_option maxHeartbeats 4000000 in
set_option maxRecDepth 100000 in
theorem boxed_any {A : Option Addr} {n c : Nat} {l : List It} {wd tl : Int} (f t : Int) (hn : n ≤ 1000000) (w : World) (h : Sl w w.heap.size 6 A n (encs l)) :
    Calls Try.prog 29 #[pgv A n c wd tl, .int .i64 f, .int .i64 t] w (Ret w (.bool (bx l f t))) := by
  obtain ⟨R, hR⟩ : ∃ R, bx l f t = R := ⟨_, rfl⟩
  rw [hR]
  have HR : Hid (decide (((fst l f : Nat) : Int) < t) = R) := Lib.hid hR
  obtain ⟨V, hV, y2, hb⟩ := pgbox w A n c wd tl
  have c0 : V.cell? ⟨w.heap.size, 0, none⟩ = some (.slice A n c) := blk_cell y2 rfl
  have hfst := first_any (c := c) f (by omega) (h.next hb)
  unfold pgv
  have HB := Lib.hid hb
  clear hb y2 hR h
  go_enter Try.func29, Try.ntmps29
  go_wp2_with (first | rw [hV] | fail)
  refine Calls.mono hfst ?_
  rintro e w' ⟨rfl, rfl⟩
  go_wp2_with fail
  go_ret
  exact Ret.mk (vbool (by rw [← HR.out])) HB.out
end Go.Proofs.Ytnojikbecohhfaa
