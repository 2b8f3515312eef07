/- The table of best ways in memory; its bounds. -/
import Derived.Test.YtdnpcplboohdpaaPgOff
import Derived.Test.YtdnpcplboohdpaaPgCost
namespace Go.Proofs.Ytdnpcplboohdpaa
set_option linter.unusedSimpArgs false
set_option linter.unusedVariables false
open Go.RowKit Go.Sort

/-! ### bounds, in plain Lean -/
def okWY (a j : Nat) (y : WY) : Prop := 0 ≤ y.total ∧ y.total ≤ 10000 * (j : Int) ∧ y.ends.length ≤ j ∧ ∀ z ∈ y.ends, 0 ≤ z ∧ z ≤ (a : Int) + j
theorem price_rng {l : List LN} {a b h : Int} (hh : h ≤ 20) (ho : pgOk l a b h = true) : 0 ≤ price l a b h ∧ price l a b h ≤ 10000 := by
  unfold pgOk at ho
  rw [Bool.and_eq_true, decide_eq_true_eq, decide_eq_true_eq] at ho
  obtain ⟨⟨h0, h1, h2, h3⟩, -⟩ := ho
  have hl : 0 ≤ lack a b h ∧ lack a b h ≤ 4000 := by
    unfold lack
    have e1 : 0 ≤ h - (b - a) := by omega
    have e2 : h - (b - a) ≤ 20 := by omega
    generalize h - (b - a) = t at *
    have := Int.mul_nonneg e1 e1
    have h3 : t * t ≤ 20 * 20 := Int.mul_le_mul e2 e2 e1 (by omega)
    rw [Int.mul_assoc]
    omega
  unfold price
  split
  · split
    · omega
    · split <;> split <;> split <;> omega
  · omega
theorem offr_ok {a j : Nat} {b : Option WY} {y z : WY} (hb : ∀ x, b = some x → okWY a j x) (hy : okWY a j y) (h : offr b y = some z) : okWY a j z := by
  unfold offr at h
  split at h
  · injection h with h; rw [← h]; exact hy
  · split at h
    · injection h with h; rw [← h]; exact hy
    · injection h with h; rw [← h]; exact hb _ rfl
theorem byWay_ok {l : List LN} {a k i : Nat} {h : Int} {f : List (Option WY)} {y : WY} (hh : h ≤ 20) (hik : i < k) (hf : ∀ x, f[i]?.join = some x → okWY a i x) (hy : byWay l a h f k i = some y) : okWY a k y := by
  unfold byWay at hy
  split at hy
  · rename_i ho
    have hp := price_rng hh ho
    cases hj : f[i]?.join with
    | none => rw [hj] at hy; cases hy
    | some x =>
      rw [hj] at hy
      simp only [Option.map_some, Option.some.injEq] at hy
      obtain ⟨h1, h2, h3, h4⟩ := hf x hj
      rw [← hy]
      refine ⟨by simp only; omega, by simp only; omega, by simp only [List.length_append, List.length_cons, List.length_nil]; omega, fun z hz => ?_⟩
      simp only [List.mem_append, List.mem_cons, List.mem_nil_iff, or_false] at hz
      rcases hz with hz | hz
      · have := h4 z hz; omega
      · omega
  · cases hy
theorem bestTo_ok {l : List LN} {a k lo : Nat} {h : Int} {f : List (Option WY)} (hh : h ≤ 20) (hf : ∀ i x, f[i]?.join = some x → okWY a i x) : ∀ (n : Nat), lo + n ≤ k → ∀ y, bestTo l a h f k lo n = some y → okWY a k y
  | 0, _, y, hy => by cases hy
  | n + 1, hn, y, hy => by
    rw [bestTo] at hy
    have ih := bestTo_ok hh hf (l := l) (k := k) (lo := lo) n (by omega)
    unfold offo at hy
    split at hy
    · exact ih y hy
    · rename_i x hx
      exact offr_ok ih (byWay_ok hh (by omega) (hf (lo + n)) hx) hy
theorem fnd_ok {l : List LN} {a : Nat} {h : Int} (hh : h ≤ 20) : ∀ (k i : Nat) (x : WY), (fnd l a h k)[i]?.join = some x → okWY a i x
  | 0, i, x, hx => by
    rw [fnd] at hx
    cases i with
    | zero =>
      simp at hx
      rw [← hx]
      exact ⟨by simp, by simp, by simp, by simp⟩
    | succ i => simp at hx
  | k + 1, i, x, hx => by
    have ih := fnd_ok hh (l := l) (a := a) k
    rw [fnd] at hx
    have hlen := fnd_len l a h k
    rcases Nat.lt_trichotomy i (k + 1) with h1 | h1 | h1
    · rw [List.getElem?_append_left (by omega)] at hx
      exact ih i x hx
    · subst h1
      rw [List.getElem?_append_right (by omega), hlen, Nat.sub_self] at hx
      simp at hx
      have hlo : loOf h (k + 1) + (k + 1 - loOf h (k + 1)) ≤ k + 1 ∨ k + 1 < loOf h (k + 1) := by omega
      rcases hlo with h2 | h2
      · exact bestTo_ok hh ih _ h2 x hx
      · rw [show k + 1 - loOf h (k + 1) = 0 by omega] at hx
        cases hx
    · rw [List.getElem?_append_right (by omega), hlen, List.getElem?_eq_none (by simp; omega)] at hx
      cases hx
/-! ### in memory -/
structure IvN (w : World) (F : Nat) (A : Option Addr) (n c : Nat) (l : List Int) : Prop where
  iv : IvAt w w.heap.size A n c l
  far : ∀ b o i, A = some ⟨b, o, i⟩ → F < b
theorem IvN.but {w w' : World} {F : Nat} {A : Option Addr} {n c : Nat} {l : List Int} (h : IvN w F A n c l) (hb : But w.heap.size (· = F) w w') : IvN w' F A n c l := by
  refine ⟨⟨h.iv.wide, h.iv.len, ⟨h.iv.sl.len, fun h0 => ?_⟩, h.iv.cap⟩, h.far⟩
  obtain ⟨b, o, e, hlt, hr⟩ := h.iv.sl.at_ h0
  exact ⟨b, o, e, Nat.lt_of_lt_of_le hlt hb.size, hb.range hlt (by have := h.far b o none e; omega) hr⟩
def Cel (w : World) (F : Nat) (cs : Array Value) (o : Nat) : Option WY → Prop
  | none => cs[o]? = some (.slice none 0 0) ∧ cs[o + 1]? = some (.int .i64 0) ∧ cs[o + 2]? = some (.int .i64 0) ∧ cs[o + 3]? = some (.bool false)
  | some y => ∃ A m c, cs[o]? = some (.slice A m c) ∧ cs[o + 1]? = some (.int .i64 y.total) ∧ cs[o + 2]? = some (.int .i64 0) ∧ cs[o + 3]? = some (.bool true) ∧ IvN w F A m c y.ends
theorem Cel.but {w w' : World} {F o : Nat} {cs : Array Value} {y : Option WY} (h : Cel w F cs o y) (hb : But w.heap.size (· = F) w w') : Cel w' F cs o y := by
  cases y with
  | none => exact h
  | some y => obtain ⟨A, m, c, h0, h1, h2, h3, h4⟩ := h; exact ⟨A, m, c, h0, h1, h2, h3, h4.but hb⟩
theorem Cel.same {w : World} {F o : Nat} {cs cs' : Array Value} {y : Option WY} (h : Cel w F cs o y) (he : ∀ i, i < 4 → cs'[o + i]? = cs[o + i]?) : Cel w F cs' o y := by
  have e0 := he 0 (by omega)
  have e1 := he 1 (by omega)
  have e2 := he 2 (by omega)
  have e3 := he 3 (by omega)
  rw [Nat.add_zero] at e0
  cases y with
  | none => obtain ⟨h0, h1, h2, h3⟩ := h; exact ⟨e0.trans h0, e1.trans h1, e2.trans h2, e3.trans h3⟩
  | some y => obtain ⟨A, m, c, h0, h1, h2, h3, h4⟩ := h; exact ⟨A, m, c, e0.trans h0, e1.trans h1, e2.trans h2, e3.trans h3, h4⟩
theorem but_less {n m : Nat} {X : Nat → Prop} {w w' : World} (h : But n X w w') (hm : m ≤ n) : But m X w w' := ⟨h.os, h.tape, h.output, h.size, fun k hk hx => h.block k (by omega) hx⟩
structure FRep (w : World) (F N : Nat) (fl : List (Option WY)) (cs : Array Value) : Prop where
  blk : w.heap[F]? = some (.cells cs 58)
  size : cs.size = N * 4
  cel : ∀ j : Nat, j < N → Cel w F cs (j * 4) (fl[j]?.join)
theorem FRep.nxt {w w' : World} {F N : Nat} {fl : List (Option WY)} {cs : Array Value} (h : FRep w F N fl cs) (hb : Below w.heap.size w w') : FRep w' F N fl cs :=
  ⟨bBlk hb (Array.getElem?_eq_some_iff.1 h.blk).1 h.blk, h.size, fun j hj => (h.cel j hj).but (but_of hb)⟩
theorem FRep.list {w : World} {F N : Nat} {fl fl' : List (Option WY)} {cs : Array Value} (h : FRep w F N fl cs) (he : ∀ j : Nat, j < N → fl'[j]?.join = fl[j]?.join) : FRep w F N fl' cs :=
  ⟨h.blk, h.size, fun j hj => by rw [he j hj]; exact h.cel j hj⟩
theorem set4_at (cs : Array Value) (o : Nat) (a b c d : Value) (h : o + 4 ≤ cs.size) : (setMany cs o [a, b, c, d])[o]? = some a ∧ (setMany cs o [a, b, c, d])[o + 1]? = some b ∧ (setMany cs o [a, b, c, d])[o + 2]? = some c ∧ (setMany cs o [a, b, c, d])[o + 3]? = some d := by
  simp only [setMany]
  refine ⟨?_, ?_, ?_, ?_⟩
  · rw [Array.getElem?_setIfInBounds_ne (by omega), Array.getElem?_setIfInBounds_ne (by omega), Array.getElem?_setIfInBounds_ne (by omega), Array.getElem?_setIfInBounds_self_of_lt (by omega)]
  · rw [Array.getElem?_setIfInBounds_ne (by omega), Array.getElem?_setIfInBounds_ne (by omega), Array.getElem?_setIfInBounds_self_of_lt (by simp only [Array.size_setIfInBounds]; omega)]
  · rw [Array.getElem?_setIfInBounds_ne (by omega)]
    show _ = some c
    rw [show o + 2 = o + 1 + 1 from rfl, Array.getElem?_setIfInBounds_self_of_lt (by simp only [Array.size_setIfInBounds]; omega)]
  · rw [show o + 3 = o + 1 + 1 + 1 from rfl, Array.getElem?_setIfInBounds_self_of_lt (by simp only [Array.size_setIfInBounds]; omega)]
theorem set4_far (cs : Array Value) (o i : Nat) (a b c d : Value) (h : i < o ∨ o + 4 ≤ i) : (setMany cs o [a, b, c, d])[i]? = cs[i]? := by
  simp only [setMany]
  rw [Array.getElem?_setIfInBounds_ne (by omega), Array.getElem?_setIfInBounds_ne (by omega), Array.getElem?_setIfInBounds_ne (by omega), Array.getElem?_setIfInBounds_ne (by omega)]
/-- one place of the table written -/
theorem FRep.put {w w' : World} {F N k : Nat} {fl fl' : List (Option WY)} {cs : Array Value} {A : Option Addr} {m c : Nat} {y : WY} (h : FRep w F N fl cs) (hk : k < N) (hb : But w.heap.size (· = F) w w')
    (hF : w'.heap[F]? = some (.cells (setMany cs (k * 4) [.slice A m c, .int .i64 y.total, .int .i64 0, .bool true]) 58)) (hy : IvN w' F A m c y.ends)
    (h1 : fl'[k]?.join = some y) (h2 : ∀ j : Nat, j < N → j ≠ k → fl'[j]?.join = fl[j]?.join) : FRep w' F N fl' (setMany cs (k * 4) [.slice A m c, .int .i64 y.total, .int .i64 0, .bool true]) := by
  have hs := h.size
  refine ⟨hF, by rw [setMany_size, hs], fun j hj => ?_⟩
  by_cases hjk : j = k
  · subst hjk
    rw [h1]
    obtain ⟨e0, e1, e2, e3⟩ := set4_at cs (j * 4) (.slice A m c) (.int .i64 y.total) (.int .i64 0) (.bool true) (by omega)
    exact ⟨A, m, c, e0, e1, e2, e3, hy⟩
  · rw [h2 j hj hjk]
    exact ((h.cel j hj).but hb).same (fun i hi => set4_far _ _ _ _ _ _ _ (by omega))
end Go.Proofs.Ytdnpcplboohdpaa
