/- An offer to a place of the table; the table when it is made. -/
import Derived.Test.YtdnpcplboohdpaaPgRep
namespace Go.Proofs.Ytdnpcplboohdpaa
set_option linter.unusedSimpArgs false
set_option linter.unusedVariables false
open Go.RowKit Go.Sort

theorem last_join {fl : List (Option WY)} {c : Option WY} {k : Nat} (h : fl.length = k) : (fl ++ [c])[k]?.join = c := by
  rw [List.getElem?_append_right (by omega), h, Nat.sub_self]
  rfl
theorem other_join {fl : List (Option WY)} {c d : Option WY} {k j : Nat} (h : fl.length = k) (hj : j ≠ k) : (fl ++ [c])[j]?.join = (fl ++ [d])[j]?.join := by
  rcases Nat.lt_or_ge j k with h1 | h1
  · rw [List.getElem?_append_left (by omega), List.getElem?_append_left (by omega)]
  · rw [List.getElem?_eq_none (by simp; omega), List.getElem?_eq_none (by simp; omega)]
theorem offer_step {F N k m c : Nat} {A : Option Addr} {fl : List (Option WY)} {cand : Option WY} {cs : Array Value} {y : WY} (w : World) (h : FRep w F N (fl ++ [cand]) cs) (hk : k < N) (hl : fl.length = k) (hy : IvN w F A m c y.ends)
    (hm : m ≤ 1000000) (hc : ∀ x, cand = some x → x.ends.length ≤ 1000000) :
    Calls Try.prog 26 #[.pointer (some ⟨F, k * 4, none⟩), wyv A m c y.total 0, .func (.func 28) #[] #[]] w fun e w' =>
      e = .returned (.tuple #[]) ∧ But w.heap.size (· = F) w w' ∧ ∃ cs', FRep w' F N (fl ++ [offr cand y]) cs' := by
  have hs := h.size
  have hcel := h.cel k hk
  rw [last_join hl] at hcel
  cases cand with
  | none =>
    obtain ⟨h0, h1, h2, h3⟩ := hcel
    refine Calls.mono (offer_new (ov := 0) (t := 0) (n := 0) (c := 0) (A := none) w h.blk (by omega) h3) ?_
    rintro e w' ⟨rfl, hF, hb⟩
    exact ⟨rfl, hb, _, h.put hk hb hF (hy.but hb) (last_join hl) (fun j hj hjk => other_join hl hjk)⟩
  | some x =>
    obtain ⟨A0, m0, c0, h0, h1, h2, h3, h4⟩ := hcel
    have hm0 : m0 ≤ 1000000 := by have := h4.iv.len; have := hc x rfl; omega
    refine Calls.mono (offer_old (x := x) (y := y) w h.blk (by omega) h0 h1 h2 h3 h4.iv hy.iv hm0 hm) ?_
    rintro e w' ⟨rfl, hF, hb⟩
    refine ⟨rfl, hb, ?_⟩
    cases hbt : bett y x
    · rw [hbt, if_neg Bool.false_ne_true] at hF
      rw [show offr (some x) y = some x from by simp [offr, hbt]]
      exact ⟨cs, hF, hs, fun j hj => (h.cel j hj).but hb⟩
    · rw [hbt, if_pos rfl] at hF
      rw [show offr (some x) y = some y from by simp [offr, hbt]]
      exact ⟨_, h.put hk hb hF (hy.but hb) (last_join hl) (fun j hj hjk => other_join hl hjk)⟩
/-- what make lays -/
def bz : List Value := [.slice none 0 0, .int .i64 0, .int .i64 0, .bool false]
theorem make_tab (n : Nat) (h1 : 1 ≤ n) (hn : n ≤ 1000) (w : World) : (Instr.makeSlice 56 (.int .i64 (n : Int)) (.int .i64 (n : Int))).run Try.prog w = .ok (.slice (some ⟨w.heap.size, 0, none⟩) n n) (w.alloc (.cells (madeCells bz.toArray (n * 4)) 58)) := by
  have h : (Try.prog.info? 58).map (fun i => (i.zero, i.size, i.bytes)) = some (some (.agg bz.toArray), 4, 48) := by kernel_rfl
  cases hq : Try.prog.info? 58 with
  | none => rw [hq] at h; cases h
  | some i =>
    rw [hq] at h
    have hz : i.zero = some (.agg bz.toArray) := by have := h; simp only [Option.map_some, Option.some.injEq, Prod.mk.injEq] at this; exact this.1
    have hs : i.size = 4 := by have := h; simp only [Option.map_some, Option.some.injEq, Prod.mk.injEq] at this; exact this.2.1
    have hb : i.bytes = 48 := by have := h; simp only [Option.map_some, Option.some.injEq, Prod.mk.injEq] at this; exact this.2.2
    have := run_make (P := Try.prog) w 56 58 i _ (by kernel_rfl) hq hz .i64 .i64 (n : Int) (n : Int) (by omega) (by omega) (by rw [hb]; omega) (by omega)
    rw [this, hs]
    simp only [Value.cells, Int.toNat_natCast]
theorem made_at {n j : Nat} (h : j < n) : (madeCells bz.toArray n)[j]? = some (bz.toArray[j % 4]!) := by
  unfold madeCells
  rw [Array.getElem?_map, Array.getElem?_range, if_pos h]
  rfl
theorem made_size (n : Nat) : (madeCells bz.toArray n).size = n := by unfold madeCells; simp
theorem tab_new {w : World} {F N : Nat} {cs : Array Value} (h1 : 1 ≤ N) (hF : w.heap[F]? = some (.cells cs 58)) (hc : cs = (madeCells bz.toArray (N * 4)).setIfInBounds 3 (.bool true)) : FRep w F N [some ⟨[], 0⟩] cs := by
  have hsz : cs.size = N * 4 := by rw [hc, Array.size_setIfInBounds, made_size]
  refine ⟨hF, hsz, fun j hj => ?_⟩
  have hat : ∀ i, i < 4 → j * 4 + i ≠ 3 → cs[j * 4 + i]? = some (bz.toArray[i]!) := fun i hi hne => by
    rw [hc, Array.getElem?_setIfInBounds_ne (by omega), made_at (by omega), show (j * 4 + i) % 4 = i by omega]
  cases j with
  | zero =>
    show Cel w F cs 0 (some ⟨[], 0⟩)
    refine ⟨none, 0, 0, hat 0 (by omega) (by omega), hat 1 (by omega) (by omega), hat 2 (by omega) (by omega), ?_, ⟨⟨by simp, rfl, Sl.nil, Nat.le_refl _⟩, fun b o i e => by cases e⟩⟩
    rw [hc]
    exact Array.getElem?_setIfInBounds_self_of_lt (by rw [made_size]; omega)
  | succ j =>
    show Cel w F cs ((j + 1) * 4) none
    exact ⟨hat 0 (by omega) (by omega), hat 1 (by omega) (by omega), hat 2 (by omega) (by omega), hat 3 (by omega) (by omega)⟩
end Go.Proofs.Ytdnpcplboohdpaa
