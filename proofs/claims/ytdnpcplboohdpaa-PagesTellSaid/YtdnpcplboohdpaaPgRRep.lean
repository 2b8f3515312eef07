/- The reference's table of ways: in plain Lean and in memory. -/
import Derived.Test.YtdnpcplboohdpaaPgRCost
import Derived.Test.YtdnpcplboohdpaaPgRLess
import Derived.Test.YtdnpcplboohdpaaPgSec
import Derived.Test.YtdnpcplboohdpaaPgLaw2
import Derived.Test.YtdnpcplboohdpaaAp
namespace Go.Proofs.Ytdnpcplboohdpaa
set_option linter.unusedSimpArgs false
set_option linter.unusedVariables false
open Go.RowKit Go.Sort

/-! ### plain -/
def wy0 : WY := ⟨[], 0⟩
def rW (l : List LN) (a : Nat) (h : Int) (k : Nat) : WY := ((fnd l a h k)[k]?.join).getD wy0
theorem rW_sec (l : List LN) (a t : Nat) (h : Int) : rW l a h (t - a) = secP l a t h := rfl
theorem rW_zero (l : List LN) (a : Nat) (h : Int) : rW l a h 0 = wy0 := rfl
/-- the best one by breaks below i -/
def curW (l : List LN) (a : Nat) (h : Int) (k i : Nat) : Option WY := bestTo l a h (fnd l a h (k - 1)) k (loOf h k) (i - loOf h k)
theorem cur_start (l : List LN) (a : Nat) (h : Int) (k : Nat) : curW l a h k (loOf h k) = none := by unfold curW; rw [Nat.sub_self]; rfl
theorem cur_end (l : List LN) (a : Nat) (h : Int) {k : Nat} (hk : 1 ≤ k) : rW l a h k = (curW l a h k k).getD wy0 := by
  obtain ⟨k, rfl⟩ : ∃ k', k = k' + 1 := ⟨k - 1, by omega⟩
  unfold rW curW
  rw [fnd_at, Nat.add_sub_cancel]
theorem pg_in {l : List LN} {a i k : Nat} {h : Int} (ha : a ≤ l.length) (hik : i < k) (hk : a + k ≤ ejP l a) (hh : (k : Int) - (i : Int) ≤ h) : pgOk l (a + i : Nat) (a + k : Nat) h = true := by
  have hle := ejP_le ha
  rw [pgOk_iff, ejP_same (l := l) (a := a) (f := a + i) (by omega) (by omega) ha]
  exact ⟨by omega, by omega, by omega, hk⟩
theorem rW_some {l : List LN} {a k : Nat} {h : Int} (h1 : 1 ≤ h) (ha : a ≤ l.length) (hk : a + k ≤ ejP l a) : (fnd l a h k)[k]?.join = some (rW l a h k) := by
  obtain ⟨E, c, hw⟩ := way_some h1 ha k hk
  obtain ⟨w, e, -⟩ := fnd_least _ E c hw
  unfold rW
  rw [e]
  rfl
theorem cur_step {l : List LN} {a i k : Nat} {h : Int} (h1 : 1 ≤ h) (ha : a ≤ l.length) (hk : a + k ≤ ejP l a) (hil : loOf h k ≤ i) (hik : i < k) :
    curW l a h k (i + 1) = offr (curW l a h k i) ⟨(rW l a h i).ends ++ [((a + k : Nat) : Int)], (rW l a h i).total + price l (a + i : Nat) (a + k : Nat) h⟩ ∧ pgOk l (a + i : Nat) (a + k : Nat) h = true := by
  have hok := pg_in (h := h) ha hik hk (by unfold loOf at hil; omega)
  refine ⟨?_, hok⟩
  unfold curW
  rw [show i + 1 - loOf h k = (i - loOf h k) + 1 by omega, bestTo, show loOf h k + (i - loOf h k) = i by omega]
  have : byWay l a h (fnd l a h (k - 1)) k i = some ⟨(rW l a h i).ends ++ [((a + k : Nat) : Int)], (rW l a h i).total + price l (a + i : Nat) (a + k : Nat) h⟩ := by
    unfold byWay
    rw [if_pos hok, fnd_stab (k - 1) (by omega), rW_some h1 ha (by omega)]
    rfl
  rw [this]
  rfl
theorem rW_ok {l : List LN} {a k : Nat} {h : Int} (hh : h ≤ 20) : okWY a k (rW l a h k) := by
  unfold rW
  cases ho : (fnd l a h k)[k]?.join with
  | none => exact ⟨by simp [wy0], by simp [wy0]; omega, by simp [wy0], by simp [wy0]⟩
  | some y => exact fnd_ok hh k k y ho
theorem cur_ok {l : List LN} {a k i : Nat} {h : Int} (hh : h ≤ 20) (hik : i ≤ k) (hl : loOf h k ≤ i) : ∀ y, curW l a h k i = some y → okWY a k y := by
  unfold curW
  exact bestTo_ok hh (fnd_ok hh (k - 1)) _ (by omega)
/-- the table while row k is sought: its best one so far is c -/
def gst (R : Nat → WY) (k : Nat) (c : WY) (j : Nat) : WY := if j < k then R j else if j = k then c else wy0
theorem gst_lt {R : Nat → WY} {k j : Nat} {c : WY} (h : j < k) : gst R k c j = R j := by unfold gst; rw [if_pos h]
theorem gst_at {R : Nat → WY} {k : Nat} {c : WY} : gst R k c k = c := by unfold gst; rw [if_neg (by omega), if_pos rfl]
theorem gst_ne {R : Nat → WY} {k j : Nat} {c c' : WY} (h : j ≠ k) : gst R k c j = gst R k c' j := by
  unfold gst
  by_cases hj : j < k
  · simp [hj]
  · simp [hj, h]
theorem gst_up {R : Nat → WY} {k : Nat} (j : Nat) : gst R k (R k) j = gst R (k + 1) wy0 j := by
  unfold gst
  rcases Nat.lt_trichotomy j k with h | h | h
  · rw [if_pos h, if_pos (by omega)]
  · subst h; rw [if_neg (by omega), if_pos rfl, if_pos (by omega)]
  · rw [if_neg (by omega), if_neg (by omega), if_neg (by omega)]; split <;> rfl
/-! ### section after section -/
theorem allW_fuel {l : List LN} {h : Int} : ∀ (q q' f : Nat) (acc : WY), l.length + 1 ≤ f + q → l.length + 1 ≤ f + q' → allW l h q f acc = allW l h q' f acc
  | 0, q', f, acc, h1, h2 => by rw [allW_end (q := 0) (by omega), allW_end (q := q') (by omega)]
  | q + 1, 0, f, acc, h1, h2 => by rw [allW_end (q := q + 1) (by omega), allW_end (q := 0) (by omega)]
  | q + 1, q' + 1, f, acc, h1, h2 => by
    rw [allW, allW]
    by_cases hf : f ≤ l.length
    · rw [if_pos hf, if_pos hf]
      have := ejP_le hf
      exact allW_fuel q q' _ _ (by omega) (by omega)
    · rw [if_neg hf, if_neg hf]
def RestW (l : List LN) (h : Int) (f : Nat) (acc RW : WY) : Prop := ∀ q, l.length + 1 ≤ f + q → allW l h q f acc = RW
theorem sec_none {l : List LN} {f : Nat} {h : Int} : secP l f f h = wy0 := by unfold secP; rw [Nat.sub_self]; rfl
theorem rest_skip {l : List LN} {h : Int} {f : Nat} {acc RW : WY} {x : LN} (hx : l[f]? = some x) (he : x.ej = true) (hr : RestW l h f acc RW) : RestW l h (f + 1) acc RW := by
  intro q hq
  have hf := (List.getElem?_eq_some_iff.1 hx).1
  have e : ejP l f = f := by have := ejP_lt (a := f) (Nat.le_refl _) hx he; have := ejP_le (l := l) (a := f) (by omega); omega
  have := hr (q + 1) (by omega)
  rw [allW, if_pos (by omega), e, sec_none] at this
  simpa [wy0] using this
theorem rest_sec {l : List LN} {h : Int} {f : Nat} {acc RW : WY} (hf : f < l.length) (hr : RestW l h f acc RW) : RestW l h (ejP l f) ⟨acc.ends ++ (secP l f (ejP l f) h).ends, acc.total + (secP l f (ejP l f) h).total⟩ RW := by
  intro q hq
  have hle := ejP_le (l := l) (a := f) (by omega)
  have h1 := hr (l.length + 1) (by omega)
  rw [allW, if_pos (by omega)] at h1
  rw [← h1]
  rcases Nat.lt_or_ge (ejP l f) l.length with ht | ht
  · obtain ⟨x, hx, he⟩ := ejP_at ht
    obtain ⟨q, rfl⟩ : ∃ q', q = q' + 1 := ⟨q - 1, by omega⟩
    have e : ejP l (ejP l f) = ejP l f := by have := ejP_lt (a := ejP l f) (Nat.le_refl _) hx he; have := ejP_le (l := l) (a := ejP l f) (by omega); omega
    rw [allW, if_pos (by omega), e, sec_none]
    simp only [wy0, List.append_nil, Int.add_zero]
    exact allW_fuel _ _ _ _ (by omega) (by omega)
  · have e : ejP l f = l.length := by omega
    rw [e]
    rw [allW_end (f := l.length + 1) (by omega)]
    obtain ⟨q, rfl⟩ : ∃ q', q = q' + 1 := ⟨q - 1, by omega⟩
    have e2 : ejP l l.length = l.length := by have := ejP_le (l := l) (a := l.length) (Nat.le_refl _); omega
    rw [allW, if_pos (Nat.le_refl _), e2, sec_none, allW_end (by omega)]
    simp [wy0]
theorem rest_end {l : List LN} {h : Int} {acc RW : WY} (hr : RestW l h l.length acc RW) : RW = acc := by
  have h1 := hr 1 (by omega)
  have e2 : ejP l l.length = l.length := by have := ejP_le (l := l) (a := l.length) (Nat.le_refl _); omega
  rw [allW, if_pos (Nat.le_refl _), e2, sec_none, allW_end (by omega)] at h1
  rw [← h1]
  simp [wy0]
theorem okAcc_up {n f g : Nat} {acc : WY} (h : okAcc n f acc) (hg : f ≤ g) : okAcc n g acc := ⟨h.1, by have := h.2.1; omega, by have := h.2.2.1; omega, h.2.2.2⟩
theorem acc_okR {n f t : Nat} {l : List LN} {h : Int} {acc : WY} (hh : h ≤ 20) (hft : f ≤ t) (htn : t ≤ n) (ha : okAcc n f acc) : okAcc n t ⟨acc.ends ++ (secP l f t h).ends, acc.total + (secP l f t h).total⟩ := by
  obtain ⟨h1, h2, h3, h4⟩ := ha
  obtain ⟨g1, g2, g3, g4⟩ := sec_ok (l := l) (a := f) (t := t) hh
  refine ⟨by simp only; omega, by simp only; omega, by simp only [List.length_append]; omega, fun z hz => ?_⟩
  rcases List.mem_append.1 hz with hz | hz
  · exact h4 z hz
  · have := g4 z hz
    omega
/-! ### in memory -/
def Cel3 (w : World) (F : Nat) (cs : Array Value) (o : Nat) (y : WY) : Prop := ∃ A m c, cs[o]? = some (.slice A m c) ∧ cs[o + 1]? = some (.int .i64 y.total) ∧ cs[o + 2]? = some (.int .i64 0) ∧ IvN w F A m c y.ends
theorem Cel3.but {w w' : World} {F o : Nat} {cs : Array Value} {y : WY} (h : Cel3 w F cs o y) (hb : But w.heap.size (· = F) w w') : Cel3 w' F cs o y := by
  obtain ⟨A, m, c, h0, h1, h2, h4⟩ := h; exact ⟨A, m, c, h0, h1, h2, h4.but hb⟩
theorem Cel3.same {w : World} {F o : Nat} {cs cs' : Array Value} {y : WY} (h : Cel3 w F cs o y) (he : ∀ i, i < 3 → cs'[o + i]? = cs[o + i]?) : Cel3 w F cs' o y := by
  obtain ⟨A, m, c, h0, h1, h2, h4⟩ := h
  have e0 := he 0 (by omega)
  rw [Nat.add_zero] at e0
  exact ⟨A, m, c, e0.trans h0, (he 1 (by omega)).trans h1, (he 2 (by omega)).trans h2, h4⟩
structure RRep (w : World) (F N : Nat) (g : Nat → WY) (cs : Array Value) : Prop where
  blk : w.heap[F]? = some (.cells cs 35)
  size : cs.size = N * 3
  cel : ∀ j : Nat, j < N → Cel3 w F cs (j * 3) (g j)
theorem RRep.nxt {w w' : World} {F N : Nat} {g : Nat → WY} {cs : Array Value} (h : RRep w F N g cs) (hb : Below w.heap.size w w') : RRep w' F N g cs :=
  ⟨bBlk hb (Array.getElem?_eq_some_iff.1 h.blk).1 h.blk, h.size, fun j hj => (h.cel j hj).but (but_of hb)⟩
theorem RRep.list {w : World} {F N : Nat} {g g' : Nat → WY} {cs : Array Value} (h : RRep w F N g cs) (he : ∀ j : Nat, j < N → g' j = g j) : RRep w F N g' cs :=
  ⟨h.blk, h.size, fun j hj => by rw [he j hj]; exact h.cel j hj⟩
theorem set3_at (cs : Array Value) (o : Nat) (a b c : Value) (h : o + 3 ≤ cs.size) : (setMany cs o [a, b, c])[o]? = some a ∧ (setMany cs o [a, b, c])[o + 1]? = some b ∧ (setMany cs o [a, b, c])[o + 2]? = some c := by
  simp only [setMany]
  refine ⟨?_, ?_, ?_⟩
  · rw [Array.getElem?_setIfInBounds_ne (by omega), Array.getElem?_setIfInBounds_ne (by omega), Array.getElem?_setIfInBounds_self_of_lt (by omega)]
  · rw [Array.getElem?_setIfInBounds_ne (by omega), Array.getElem?_setIfInBounds_self_of_lt (by simp only [Array.size_setIfInBounds]; omega)]
  · show _ = some c
    rw [show o + 2 = o + 1 + 1 from rfl, Array.getElem?_setIfInBounds_self_of_lt (by simp only [Array.size_setIfInBounds]; omega)]
theorem set3_far (cs : Array Value) (o i : Nat) (a b c : Value) (h : i < o ∨ o + 3 ≤ i) : (setMany cs o [a, b, c])[i]? = cs[i]? := by
  simp only [setMany]
  rw [Array.getElem?_setIfInBounds_ne (by omega), Array.getElem?_setIfInBounds_ne (by omega), Array.getElem?_setIfInBounds_ne (by omega)]
/-- one place of the table written -/
theorem RRep.put {w w' : World} {F N k : Nat} {g g' : Nat → WY} {cs : Array Value} {A : Option Addr} {m c : Nat} {y : WY} (h : RRep w F N g cs) (hk : k < N) (hb : But w.heap.size (· = F) w w')
    (hF : w'.heap[F]? = some (.cells (setMany cs (k * 3) [.slice A m c, .int .i64 y.total, .int .i64 0]) 35)) (hy : IvN w' F A m c y.ends)
    (h1 : g' k = y) (h2 : ∀ j : Nat, j < N → j ≠ k → g' j = g j) : RRep w' F N g' (setMany cs (k * 3) [.slice A m c, .int .i64 y.total, .int .i64 0]) := by
  have hs := h.size
  refine ⟨hF, by rw [setMany_size, hs], fun j hj => ?_⟩
  by_cases hjk : j = k
  · subst hjk
    rw [h1]
    obtain ⟨e0, e1, e2⟩ := set3_at cs (j * 3) (.slice A m c) (.int .i64 y.total) (.int .i64 0) (by omega)
    exact ⟨A, m, c, e0, e1, e2, hy⟩
  · rw [h2 j hj hjk]
    exact ((h.cel j hj).but hb).same (fun i hi => set3_far _ _ _ _ _ _ (by omega))
theorem make_tab3 (n : Nat) (h1 : 1 ≤ n) (hn : n ≤ 1000) (w : World) : (Instr.makeSlice 52 (.int .i64 (n : Int)) (.int .i64 (n : Int))).run Try.prog w = .ok (.slice (some ⟨w.heap.size, 0, none⟩) n n) (w.alloc (.cells (madeCells wyz (n * 3)) 35)) := by
  have h : (Try.prog.info? 35).map (fun i => (i.zero, i.size, i.bytes)) = some (some (.agg wyz), 3, 40) := by kernel_rfl
  cases hq : Try.prog.info? 35 with
  | none => rw [hq] at h; cases h
  | some i =>
    rw [hq] at h
    have hz : i.zero = some (.agg wyz) := by have := h; simp only [Option.map_some, Option.some.injEq, Prod.mk.injEq] at this; exact this.1
    have hs : i.size = 3 := by have := h; simp only [Option.map_some, Option.some.injEq, Prod.mk.injEq] at this; exact this.2.1
    have hb : i.bytes = 40 := by have := h; simp only [Option.map_some, Option.some.injEq, Prod.mk.injEq] at this; exact this.2.2
    have := run_make (P := Try.prog) w 52 35 i _ (by kernel_rfl) hq hz .i64 .i64 (n : Int) (n : Int) (by omega) (by omega) (by rw [hb]; omega) (by omega)
    rw [this, hs]
    simp only [Value.cells, Int.toNat_natCast]
theorem made_at3 {n j : Nat} (h : j < n) : (madeCells wyz n)[j]? = some (wyz[j % 3]!) := by
  unfold madeCells
  rw [Array.getElem?_map, Array.getElem?_range, if_pos h]
  rfl
theorem made_size3 (n : Nat) : (madeCells wyz n).size = n := by unfold madeCells; simp
theorem tab_new3 {w : World} {F N : Nat} {cs : Array Value} (hF : w.heap[F]? = some (.cells cs 35)) (hc : cs = madeCells wyz (N * 3)) : RRep w F N (fun _ => wy0) cs := by
  refine ⟨hF, by rw [hc]; exact made_size3 _, fun j hj => ?_⟩
  have hat : ∀ i, i < 3 → cs[j * 3 + i]? = some (wyz[i]!) := fun i hi => by
    rw [hc, made_at3 (by omega), show (j * 3 + i) % 3 = i by omega]
  exact ⟨none, 0, 0, hat 0 (by omega), hat 1 (by omega), hat 2 (by omega), ⟨⟨by simp [wy0], rfl, Sl.nil, Nat.le_refl _⟩, fun b o i e => by cases e⟩⟩
end Go.Proofs.Ytdnpcplboohdpaa
