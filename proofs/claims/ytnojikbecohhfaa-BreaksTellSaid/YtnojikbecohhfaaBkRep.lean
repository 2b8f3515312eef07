/- The table of best ways in memory; an offer to a place of it; the table when it is made. -/
import Derived.Test.YtnojikbecohhfaaBkOff
namespace Go.Proofs.Ytnojikbecohhfaa
set_option linter.unusedSimpArgs false
set_option linter.unusedVariables false
open Go.RowKit Go.Sort

/-! ### in memory -/
structure IvN (w : World) (F : Nat) (A : Option Addr) (n c : Nat) (l : List Int) : Prop where
  iv : IvAt w w.heap.size A n c l
  far : ∀ b o i, A = some ⟨b, o, i⟩ → F < b
theorem IvN.but {w w' : World} {F : Nat} {A : Option Addr} {n c : Nat} {l : List Int} (h : IvN w F A n c l) (hb : But w.heap.size (· = F) w w') : IvN w' F A n c l := by
  refine ⟨⟨h.iv.wide, h.iv.len, ⟨h.iv.sl.len, fun h0 => ?_⟩, h.iv.cap⟩, h.far⟩
  obtain ⟨b, o, e, hlt, hr⟩ := h.iv.sl.at_ h0
  exact ⟨b, o, e, Nat.lt_of_lt_of_le hlt hb.size, hb.range hlt (by have := h.far b o none e; omega) hr⟩
def Cel (w : World) (F : Nat) (cs : Array Value) (o : Nat) : Option WY → Prop
  | none => cs[o]? = some (.slice none 0 0) ∧ cs[o + 1]? = some (.int .i64 0) ∧ cs[o + 2]? = some (.int .i64 0) ∧ cs[o + 3]? = some (.bool false)
  | some y => ∃ A m c, cs[o]? = some (.slice A m c) ∧ cs[o + 1]? = some (.int .i64 y.total) ∧ cs[o + 2]? = some (.int .i64 y.over) ∧ cs[o + 3]? = some (.bool true) ∧ IvN w F A m c y.ends
theorem Cel.but {w w' : World} {F o : Nat} {cs : Array Value} {y : Option WY} (h : Cel w F cs o y) (hb : But w.heap.size (· = F) w w') : Cel w' F cs o y := by
  cases y with
  | none => exact h
  | some y => obtain ⟨A, m, c, h0, h1, h2, h3, h4⟩ := h; exact ⟨A, m, c, h0, h1, h2, h3, h4.but hb⟩
theorem Cel.same {w : World} {F o : Nat} {cs cs' : Array Value} {y : Option WY} (h : Cel w F cs o y) (he : ∀ i, i < 4 → cs'[o + i]? = cs[o + i]?) : Cel w F cs' o y := by
  have e0 := he 0 (by omega)
  have e1 := he 1 (by omega)
  have e2 := he 2 (by omega)
  have e3 := he 3 (by omega)
  rw [Nat.add_zero] at e0
  cases y with
  | none => obtain ⟨h0, h1, h2, h3⟩ := h; exact ⟨e0.trans h0, e1.trans h1, e2.trans h2, e3.trans h3⟩
  | some y => obtain ⟨A, m, c, h0, h1, h2, h3, h4⟩ := h; exact ⟨A, m, c, e0.trans h0, e1.trans h1, e2.trans h2, e3.trans h3, h4⟩
theorem but_less {n m : Nat} {X : Nat → Prop} {w w' : World} (h : But n X w w') (hm : m ≤ n) : But m X w w' := ⟨h.os, h.tape, h.output, h.size, fun k hk hx => h.block k (by omega) hx⟩
structure FRep (w : World) (F N : Nat) (fl : List (Option WY)) (cs : Array Value) : Prop where
  blk : w.heap[F]? = some (.cells cs 67)
  size : cs.size = N * 4
  cel : ∀ j : Nat, j < N → Cel w F cs (j * 4) (fl[j]?.join)
theorem FRep.nxt {w w' : World} {F N : Nat} {fl : List (Option WY)} {cs : Array Value} (h : FRep w F N fl cs) (hb : Below w.heap.size w w') : FRep w' F N fl cs :=
  ⟨bBlk hb (Array.getElem?_eq_some_iff.1 h.blk).1 h.blk, h.size, fun j hj => (h.cel j hj).but (but_of hb)⟩
theorem FRep.list {w : World} {F N : Nat} {fl fl' : List (Option WY)} {cs : Array Value} (h : FRep w F N fl cs) (he : ∀ j : Nat, j < N → fl'[j]?.join = fl[j]?.join) : FRep w F N fl' cs :=
  ⟨h.blk, h.size, fun j hj => by rw [he j hj]; exact h.cel j hj⟩
theorem set4_at (cs : Array Value) (o : Nat) (a b c d : Value) (h : o + 4 ≤ cs.size) : (setMany cs o [a, b, c, d])[o]? = some a ∧ (setMany cs o [a, b, c, d])[o + 1]? = some b ∧ (setMany cs o [a, b, c, d])[o + 2]? = some c ∧ (setMany cs o [a, b, c, d])[o + 3]? = some d := by
  simp only [setMany]
  refine ⟨?_, ?_, ?_, ?_⟩
  · rw [Array.getElem?_setIfInBounds_ne (by omega), Array.getElem?_setIfInBounds_ne (by omega), Array.getElem?_setIfInBounds_ne (by omega), Array.getElem?_setIfInBounds_self_of_lt (by omega)]
  · rw [Array.getElem?_setIfInBounds_ne (by omega), Array.getElem?_setIfInBounds_ne (by omega), Array.getElem?_setIfInBounds_self_of_lt (by simp only [Array.size_setIfInBounds]; omega)]
  · rw [Array.getElem?_setIfInBounds_ne (by omega)]
    show _ = some c
    rw [show o + 2 = o + 1 + 1 from rfl, Array.getElem?_setIfInBounds_self_of_lt (by simp only [Array.size_setIfInBounds]; omega)]
  · rw [show o + 3 = o + 1 + 1 + 1 from rfl, Array.getElem?_setIfInBounds_self_of_lt (by simp only [Array.size_setIfInBounds]; omega)]
theorem set4_far (cs : Array Value) (o i : Nat) (a b c d : Value) (h : i < o ∨ o + 4 ≤ i) : (setMany cs o [a, b, c, d])[i]? = cs[i]? := by
  simp only [setMany]
  rw [Array.getElem?_setIfInBounds_ne (by omega), Array.getElem?_setIfInBounds_ne (by omega), Array.getElem?_setIfInBounds_ne (by omega), Array.getElem?_setIfInBounds_ne (by omega)]
/-- one place of the table written -/
theorem FRep.put {w w' : World} {F N k : Nat} {fl fl' : List (Option WY)} {cs : Array Value} {A : Option Addr} {m c : Nat} {y : WY} (h : FRep w F N fl cs) (hk : k < N) (hb : But w.heap.size (· = F) w w')
    (hF : w'.heap[F]? = some (.cells (setMany cs (k * 4) [.slice A m c, .int .i64 y.total, .int .i64 y.over, .bool true]) 67)) (hy : IvN w' F A m c y.ends)
    (h1 : fl'[k]?.join = some y) (h2 : ∀ j : Nat, j < N → j ≠ k → fl'[j]?.join = fl[j]?.join) : FRep w' F N fl' (setMany cs (k * 4) [.slice A m c, .int .i64 y.total, .int .i64 y.over, .bool true]) := by
  have hs := h.size
  refine ⟨hF, by rw [setMany_size, hs], fun j hj => ?_⟩
  by_cases hjk : j = k
  · subst hjk
    rw [h1]
    obtain ⟨e0, e1, e2, e3⟩ := set4_at cs (j * 4) (.slice A m c) (.int .i64 y.total) (.int .i64 y.over) (.bool true) (by omega)
    exact ⟨A, m, c, e0, e1, e2, e3, hy⟩
  · rw [h2 j hj hjk]
    exact ((h.cel j hj).but hb).same (fun i hi => set4_far _ _ _ _ _ _ _ (by omega))
theorem last_join {fl : List (Option WY)} {c : Option WY} {k : Nat} (h : fl.length = k) : (fl ++ [c])[k]?.join = c := by
  rw [List.getElem?_append_right (by omega), h, Nat.sub_self]
  rfl
theorem other_join {fl : List (Option WY)} {c d : Option WY} {k j : Nat} (h : fl.length = k) (hj : j ≠ k) : (fl ++ [c])[j]?.join = (fl ++ [d])[j]?.join := by
  rcases Nat.lt_or_ge j k with h1 | h1
  · rw [List.getElem?_append_left (by omega), List.getElem?_append_left (by omega)]
  · rw [List.getElem?_eq_none (by simp; omega), List.getElem?_eq_none (by simp; omega)]
theorem offer_step {F N k m c : Nat} {A : Option Addr} {fl : List (Option WY)} {cand : Option WY} {cs : Array Value} {y : WY} (w : World) (h : FRep w F N (fl ++ [cand]) cs) (hk : k < N) (hl : fl.length = k) (hy : IvN w F A m c y.ends)
    (hm : m ≤ 1000000) (hc : ∀ x, cand = some x → x.ends.length ≤ 1000000) :
    Calls Try.prog 42 #[.pointer (some ⟨F, k * 4, none⟩), wyv A m c y.total y.over, .func (.func 43) #[] #[]] w fun e w' =>
      e = .returned (.tuple #[]) ∧ But w.heap.size (· = F) w w' ∧ ∃ cs', FRep w' F N (fl ++ [offr cand y]) cs' := by
  have hs := h.size
  have hcel := h.cel k hk
  rw [last_join hl] at hcel
  cases cand with
  | none =>
    obtain ⟨h0, h1, h2, h3⟩ := hcel
    refine Calls.mono (offer_new (ov := 0) (t := 0) (n := 0) (c := 0) (A := none) w h.blk (by omega) h3) ?_
    rintro e w' ⟨rfl, hF, hb⟩
    exact ⟨rfl, hb, _, h.put hk hb hF (hy.but hb) (last_join hl) (fun j hj hjk => other_join hl hjk)⟩
  | some x =>
    obtain ⟨A0, m0, c0, h0, h1, h2, h3, h4⟩ := hcel
    have hm0 : m0 ≤ 1000000 := by have := h4.iv.len; have := hc x rfl; omega
    refine Calls.mono (offer_old (x := x) (y := y) w h.blk (by omega) h0 h1 h2 h3 h4.iv hy.iv hm0 hm) ?_
    rintro e w' ⟨rfl, hF, hb⟩
    refine ⟨rfl, hb, ?_⟩
    cases hbt : bett y x
    · rw [hbt, if_neg Bool.false_ne_true] at hF
      rw [show offr (some x) y = some x from by simp [offr, hbt]]
      exact ⟨cs, hF, hs, fun j hj => (h.cel j hj).but hb⟩
    · rw [hbt, if_pos rfl] at hF
      rw [show offr (some x) y = some y from by simp [offr, hbt]]
      exact ⟨_, h.put hk hb hF (hy.but hb) (last_join hl) (fun j hj hjk => other_join hl hjk)⟩
/-- what make lays -/
def bz : List Value := [.slice none 0 0, .int .i64 0, .int .i64 0, .bool false]
theorem make_tab (n : Nat) (h1 : 1 ≤ n) (hn : n ≤ 1000) (w : World) : (Instr.makeSlice 83 (.int .i64 (n : Int)) (.int .i64 (n : Int))).run Try.prog w = .ok (.slice (some ⟨w.heap.size, 0, none⟩) n n) (w.alloc (.cells (madeCells bz.toArray (n * 4)) 67)) := by
  have h : (Try.prog.info? 67).map (fun i => (i.zero, i.size, i.bytes)) = some (some (.agg bz.toArray), 4, 48) := by kernel_rfl
  cases hq : Try.prog.info? 67 with
  | none => rw [hq] at h; cases h
  | some i =>
    rw [hq] at h
    have hz : i.zero = some (.agg bz.toArray) := by have := h; simp only [Option.map_some, Option.some.injEq, Prod.mk.injEq] at this; exact this.1
    have hs : i.size = 4 := by have := h; simp only [Option.map_some, Option.some.injEq, Prod.mk.injEq] at this; exact this.2.1
    have hb : i.bytes = 48 := by have := h; simp only [Option.map_some, Option.some.injEq, Prod.mk.injEq] at this; exact this.2.2
    have := run_make (P := Try.prog) w 83 67 i _ (by kernel_rfl) hq hz .i64 .i64 (n : Int) (n : Int) (by omega) (by omega) (by rw [hb]; omega) (by omega)
    rw [this, hs]
    simp only [Value.cells, Int.toNat_natCast]
theorem made_at {n j : Nat} (h : j < n) : (madeCells bz.toArray n)[j]? = some (bz.toArray[j % 4]!) := by
  unfold madeCells
  rw [Array.getElem?_map, Array.getElem?_range, if_pos h]
  rfl
theorem made_size (n : Nat) : (madeCells bz.toArray n).size = n := by unfold madeCells; simp
theorem tab_new {w : World} {F N : Nat} {cs : Array Value} (h1 : 1 ≤ N) (hF : w.heap[F]? = some (.cells cs 67)) (hc : cs = (madeCells bz.toArray (N * 4)).setIfInBounds 3 (.bool true)) : FRep w F N [some wy0] cs := by
  have hsz : cs.size = N * 4 := by rw [hc, Array.size_setIfInBounds, made_size]
  refine ⟨hF, hsz, fun j hj => ?_⟩
  have hat : ∀ i, i < 4 → j * 4 + i ≠ 3 → cs[j * 4 + i]? = some (bz.toArray[i]!) := fun i hi hne => by
    rw [hc, Array.getElem?_setIfInBounds_ne (by omega), made_at (by omega), show (j * 4 + i) % 4 = i by omega]
  cases j with
  | zero =>
    show Cel w F cs 0 (some wy0)
    refine ⟨none, 0, 0, hat 0 (by omega) (by omega), hat 1 (by omega) (by omega), hat 2 (by omega) (by omega), ?_, ⟨⟨(fun x hx => by cases hx), rfl, Sl.nil, Nat.le_refl _⟩, fun b o i e => by cases e⟩⟩
    rw [hc]
    exact Array.getElem?_setIfInBounds_self_of_lt (by rw [made_size]; omega)
  | succ j =>
    show Cel w F cs ((j + 1) * 4) none
    exact ⟨hat 0 (by omega) (by omega), hat 1 (by omega) (by omega), hat 2 (by omega) (by omega), hat 3 (by omega) (by omega)⟩
end Go.Proofs.Ytnojikbecohhfaa
