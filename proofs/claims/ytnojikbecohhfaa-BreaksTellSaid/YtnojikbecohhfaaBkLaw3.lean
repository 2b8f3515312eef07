/- Breaks in plain Lean: a greater tolerance; one line. -/
import Derived.Test.YtnojikbecohhfaaBkLaw2
namespace Go.Proofs.Ytnojikbecohhfaa
set_option linter.unusedSimpArgs false
set_option linter.unusedVariables false

theorem lineD_tol {l : List It} {wd tl tl2 f t : Int} : (lineD l wd tl2 f t).n = (lineD l wd tl f t).n ∧ (lineD l wd tl2 f t).over = (lineD l wd tl f t).over := by
  unfold lineD
  split <;> exact ⟨rfl, rfl⟩
theorem lineD_may {l : List It} {wd tl tl2 f t : Int} (h : tl ≤ tl2) (hm : (lineD l wd tl f t).may = true) : (lineD l wd tl2 f t).may = true := by
  unfold lineD at hm ⊢
  split at hm
  · rename_i hb
    rw [if_pos hb]
    simp only at hm ⊢
    have := of_decide_eq_true hm
    exact decide_eq_true (by omega)
  · cases hm
theorem withW_tol {l : List It} {wd tl tl2 f t : Int} (y : WY) : withW l wd tl2 y f t = withW l wd tl y f t := by
  obtain ⟨h1, h2⟩ := lineD_tol (l := l) (wd := wd) (tl := tl) (tl2 := tl2) (f := f) (t := t)
  unfold withW
  rw [h1, h2]
theorem path_tol {l : List It} {wd tl tl2 : Int} (h : tl ≤ tl2) {k : Nat} {x : WY} (hp : PathTo l wd tl false k x) : PathTo l wd tl2 false k x := by
  induction hp with
  | nil => exact .nil
  | @step i k y hp hik hk hb hm ih =>
    rw [← withW_tol (tl2 := tl2)]
    exact .step ih hik hk hb (by rw [Bool.or_false] at hm ⊢; exact lineD_may h hm)
theorem plcs_at {l : List It} {t : Int} (h : t ∈ plcs l) : ∃ k, 1 ≤ k ∧ k < (plc l).length ∧ plcAt l k = t := by
  obtain ⟨j, hj, e⟩ := List.getElem_of_mem h
  have hj2 : j + 1 < (plc l).length := by
    rw [plc_len]
    unfold plcs at hj
    rw [List.length_map] at hj
    omega
  refine ⟨j + 1, by omega, hj2, ?_⟩
  unfold plcAt
  rw [List.getElem?_eq_getElem hj2]
  exact e
theorem plc_inj {l : List It} {i k : Nat} (hi : i < (plc l).length) (hk : k < (plc l).length) (h : plcAt l i < plcAt l k) : i < k := by
  rcases Nat.lt_trichotomy i k with h1 | h1 | h1
  · exact h1
  · subst h1; omega
  · have := plc_lt h1 hi; omega
theorem stepW_may {l : List It} {wd tl : Int} : ∀ (es : List Int) (f : Int) (y x : WY) (m : Bool), stepW l wd tl f y m es = some (x, true) → m = true
  | [], f, y, x, m, h => by
    rw [stepW] at h
    injection h with h
    injection h with h1 h2
  | e :: es, f, y, x, m, h => by
    rw [stepW] at h
    split at h
    · have := stepW_may es _ _ _ _ h
      rw [Bool.and_eq_true] at this
      exact this.1
    · cases h
/-- what is walked is a way; one that may be, if all its lines may be -/
theorem walk_path {l : List It} {wd tl : Int} {all : Bool} : ∀ (es : List Int) (i : Nat) (y x : WY) (m mb : Bool), i < (plc l).length → PathTo l wd tl all i y → stepW l wd tl (plcAt l i) y m es = some (x, mb) → (all = false → mb = true) →
    ∃ k, k < (plc l).length ∧ PathTo l wd tl all k x ∧ plcAt l k = es.getLastD (plcAt l i)
  | [], i, y, x, m, mb, hi, hp, hs, ha => by
    rw [stepW] at hs
    injection hs with hs
    injection hs with h1 h2
    subst h1
    subst h2
    exact ⟨i, hi, hp, rfl⟩
  | e :: es, i, y, x, m, mb, hi, hp, hs, ha => by
    rw [stepW] at hs
    split at hs
    · rename_i hc
      obtain ⟨h1, h2, h3⟩ := hc
      obtain ⟨k, k1, k2, rfl⟩ := plcs_at h2
      have hik := plc_inj hi k2 h1
      have hmm : ((lineD l wd tl (plcAt l i) (plcAt l k)).may || all) = true := by
        cases all with
        | true => simp
        | false =>
          rw [ha rfl] at hs
          have := stepW_may es _ _ _ _ hs
          rw [Bool.and_eq_true] at this
          rw [this.2]; rfl
      obtain ⟨k', g1, g2, g3⟩ := walk_path es k _ x _ mb k2 (.step hp hik k2 h3 hmm) hs ha
      exact ⟨k', g1, g2, by rw [g3, List.getLastD_cons]⟩
    · cases hs
theorem plc_end {l : List It} {k : Nat} (hk : k < (plc l).length) (h : plcAt l k = l.length) : k = (brks l).length := by
  have h1 := plc_last l
  have h2 := plc_len l
  rcases Nat.lt_or_ge k (brks l).length with h3 | h3
  · have := plc_lt (l := l) h3 (by omega); omega
  · omega
theorem walkP_path {l : List It} {wd tl : Int} {all : Bool} {es : List Int} {x : WY} {mb : Bool} (h : walkP l wd tl es = some (x, mb)) (ha : all = false → mb = true) : PathTo l wd tl all (brks l).length x := by
  unfold walkP at h
  split at h
  · cases h
  · rename_i hc
    have hlast : es.getLast? = some (l.length : Int) := by
      by_cases h1 : es.getLast? = some (l.length : Int)
      · exact h1
      · exact absurd (.inr h1) hc
    obtain ⟨k, g1, g2, g3⟩ := walk_path es 0 wy0 x true mb (by rw [plc_len]; omega) .nil h ha
    have : plcAt l k = l.length := by
      rw [g3]
      cases es with
      | nil => cases hlast
      | cons a t =>
        rw [List.getLastD_eq_getLast?, hlast]
        rfl
    rw [← plc_end g1 this]
    exact g2
theorem best_walkP {l : List It} {wd tl : Int} (hn : l.length ≤ 600) (hb : bx l (-1) l.length = true) : ∃ mb, walkP l wd tl (bestP l wd tl).ends = some (bestP l wd tl, mb) ∧ (mb = true ↔ (srch l wd tl false).isSome) := by
  obtain ⟨mb, h1, h2, h3⟩ := best_walk (wd := wd) (tl := tl) hn hb
  have hw : walkP l wd tl (bestP l wd tl).ends = some (bestP l wd tl, mb) := by
    unfold walkP
    rw [if_neg (by rintro (h | h); omega; exact h h2), h1]
  refine ⟨mb, hw, fun hm => ?_, h3⟩
  exact srch_some (walkP_path hw (fun _ => hm))
theorem best_of_srch {l : List It} {wd tl : Int} (hn : l.length ≤ 600) (hb : bx l (-1) l.length = true) {x : WY} (h : srch l wd tl false = some x) : bestP l wd tl = x := by
  unfold bestP
  rw [if_neg (by rw [hb]; simp; omega), h]
theorem tolerate {l : List It} {wd tl tl2 : Int} (hn : l.length ≤ 600) (hb : bx l (-1) l.length = true) (ht : tl ≤ tl2) (hm : wkM (walkP l wd tl (bestP l wd tl).ends) = true) :
    wkM (walkP l wd tl2 (bestP l wd tl2).ends) = true ∧ (bestP l wd tl2).total ≤ (bestP l wd tl).total := by
  obtain ⟨mb, h1, h2⟩ := best_walkP (wd := wd) (tl := tl) hn hb
  obtain ⟨mb2, k1, k2⟩ := best_walkP (wd := wd) (tl := tl2) hn hb
  rw [h1] at hm
  have hm' : mb = true := hm
  obtain ⟨x, hx, hle⟩ := srch_least (path_tol ht (walkP_path (all := false) h1 (fun _ => hm')))
  rw [k1]
  refine ⟨?_, ?_⟩
  · show mb2 = true
    exact k2.2 (by rw [hx]; rfl)
  · rw [best_of_srch hn hb hx]
    rcases hle with h | ⟨h, -⟩ <;> omega
theorem penAt_no (l : List It) : penAt l l.length = false ∧ penAt l (-1) = false := by
  constructor
  · unfold penAt
    simp
  · rfl
theorem one_line {l : List It} {wd tl : Int} (hn : l.length ≤ 600) (hb : bx l (-1) l.length = true) (ht : 0 ≤ tl) (hw : (line l (-1) l.length).w ≤ wd) : walkP l wd tl [(l.length : Int)] = some (⟨[(l.length : Int)], 100, 0⟩, true) ∧ (bestP l wd tl).total ≤ 100 := by
  have hbd : badL l wd (-1) l.length = (0, true) := by unfold badL; rw [if_pos ⟨rfl, by omega⟩]
  have hld : lineD l wd tl (-1) l.length = ⟨100, false, true⟩ := by
    unfold lineD
    rw [hbd, if_pos rfl]
    simp only [(penAt_no l).1, (penAt_no l).2, Bool.and_false, Bool.false_and, decide_eq_true ht]
    have hc : costAt l l.length = 0 := by unfold costAt; rw [(penAt_no l).1]; simp
    rw [hc]
    rfl
  have hwl : walkP l wd tl [(l.length : Int)] = some (⟨[(l.length : Int)], 100, 0⟩, true) := by
    have h0 : ((l.length : Nat) : Int) ∈ plcs l := by
      rw [← plc_last]
      exact plc_mem (brks_pos l) (by rw [plc_len]; omega)
    unfold walkP
    rw [if_neg (by rintro (h | h); omega; exact h rfl), stepW, if_pos ⟨by omega, h0, hb⟩, stepW]
    unfold withW
    rw [hld]
    rfl
  refine ⟨hwl, ?_⟩
  obtain ⟨x, hx, hle⟩ := srch_least (walkP_path (all := false) hwl (fun _ => rfl))
  rw [best_of_srch hn hb hx]
  rcases hle with h | ⟨h, -⟩ <;> simp only at h <;> omega
end Go.Proofs.Ytnojikbecohhfaa
