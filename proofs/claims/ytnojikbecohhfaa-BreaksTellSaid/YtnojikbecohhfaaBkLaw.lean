/- Breaks in plain Lean: what the search finds is a way. -/
import Derived.Test.YtnojikbecohhfaaBkWalk
namespace Go.Proofs.Ytnojikbecohhfaa
set_option linter.unusedSimpArgs false
set_option linter.unusedVariables false

theorem brksTo_sorted (l : List It) (k : Nat) : (brksTo l k).Pairwise (· < ·) := by
  unfold brksTo
  exact List.Pairwise.sublist List.filter_sublist List.pairwise_lt_range
theorem brks_sorted (l : List It) : (brks l).Pairwise (· < ·) := by
  unfold brks
  rw [List.pairwise_append]
  refine ⟨brksTo_sorted l _, List.pairwise_singleton _ _, fun a ha b hb => ?_⟩
  have h1 : a < l.length := by
    unfold brksTo at ha
    exact List.mem_range.1 (List.mem_filter.1 ha).1
  have h2 : b = l.length := by simpa using hb
  omega
theorem plc_sorted (l : List It) : (plc l).Pairwise (· < ·) := by
  unfold plc
  rw [List.pairwise_cons]
  refine ⟨fun a ha => ?_, ?_⟩
  · obtain ⟨z, -, e⟩ := List.mem_map.1 ha
    omega
  · rw [List.pairwise_map]
    exact (brks_sorted l).imp (fun h => by omega)
theorem plc_lt {l : List It} {i k : Nat} (hik : i < k) (hk : k < (plc l).length) : plcAt l i < plcAt l k := by
  unfold plcAt
  rw [List.getElem?_eq_getElem hk, List.getElem?_eq_getElem (by omega)]
  exact List.pairwise_iff_getElem.1 (plc_sorted l) i k (by omega) hk hik
theorem plc_mem {l : List It} {k : Nat} (h1 : 1 ≤ k) (hk : k < (plc l).length) : plcAt l k ∈ plcs l := by
  obtain ⟨j, rfl⟩ : ∃ j, k = j + 1 := ⟨k - 1, by omega⟩
  unfold plcAt
  rw [List.getElem?_eq_getElem hk]
  unfold plc
  simp only [List.getElem_cons_succ, Option.getD_some]
  exact List.getElem_mem _
theorem plc_zero (l : List It) : plcAt l 0 = -1 := rfl
theorem plc_last (l : List It) : plcAt l (brks l).length = l.length := by
  have h := brks_last l
  have h1 := brks_len l
  unfold plcAt plc
  obtain ⟨j, hj⟩ : ∃ j, (brks l).length = j + 1 := ⟨(brks l).length - 1, by omega⟩
  rw [hj] at h ⊢
  rw [Nat.add_sub_cancel] at h
  rw [List.getElem?_cons_succ, List.getElem?_map, h]
  rfl
/-- a way to the k-th place -/
inductive PathTo (l : List It) (wd tl : Int) (all : Bool) : Nat → WY → Prop
  | nil : PathTo l wd tl all 0 wy0
  | step {i k : Nat} {y : WY} : PathTo l wd tl all i y → i < k → k < (plc l).length → bx l (plcAt l i) (plcAt l k) = true → ((lineD l wd tl (plcAt l i) (plcAt l k)).may || all) = true →
      PathTo l wd tl all k (withW l wd tl y (plcAt l i) (plcAt l k))
theorem byWay_path {l : List It} {wd tl : Int} {all : Bool} {f : List (Option WY)} {k i : Nat} {y : WY} (hik : i < k) (hk : k < (plc l).length) (hf : ∀ x, f[i]?.join = some x → PathTo l wd tl all i x) (hy : byWay l wd tl all f k i = some y) : PathTo l wd tl all k y := by
  unfold byWay at hy
  split at hy
  · rename_i hb
    cases hj : f[i]?.join with
    | none => rw [hj] at hy; cases hy
    | some x =>
      rw [hj] at hy
      simp only [Option.bind_some] at hy
      split at hy
      · rename_i hm
        injection hy with hy
        rw [← hy]
        exact .step (hf x hj) hik hk hb hm
      · cases hy
  · cases hy
theorem bestTo_path {l : List It} {wd tl : Int} {all : Bool} {f : List (Option WY)} {k : Nat} (hk : k < (plc l).length) (hf : ∀ i x, f[i]?.join = some x → PathTo l wd tl all i x) : ∀ (n : Nat), n ≤ k → ∀ y, bestTo l wd tl all f k n = some y → PathTo l wd tl all k y
  | 0, _, y, hy => by cases hy
  | n + 1, hn, y, hy => by
    rw [bestTo] at hy
    have ih := bestTo_path hk hf n (by omega)
    unfold offo at hy
    split at hy
    · exact ih y hy
    · rename_i x hx
      have hp := byWay_path (by omega) hk (hf n) hx
      unfold offr at hy
      split at hy
      · injection hy with hy; rw [← hy]; exact hp
      · rename_i z hz
        split at hy
        · injection hy with hy; rw [← hy]; exact hp
        · injection hy with hy; rw [← hy]; exact ih z hz
theorem fnd_path {l : List It} {wd tl : Int} {all : Bool} : ∀ (k i : Nat) (x : WY), k < (plc l).length → (fnd l wd tl all k)[i]?.join = some x → PathTo l wd tl all i x
  | 0, i, x, _, hx => by
    rw [fnd] at hx
    cases i with
    | zero =>
      simp at hx
      rw [← hx]
      exact .nil
    | succ i => simp at hx
  | k + 1, i, x, hk, hx => by
    have ih := fun i x => fnd_path (l := l) (wd := wd) (tl := tl) (all := all) k i x (by omega)
    rw [fnd] at hx
    have hlen := fnd_len l wd tl all k
    rcases Nat.lt_trichotomy i (k + 1) with h1 | h1 | h1
    · rw [List.getElem?_append_left (by omega)] at hx
      exact ih i x hx
    · subst h1
      rw [List.getElem?_append_right (by omega), hlen, Nat.sub_self] at hx
      simp at hx
      exact bestTo_path hk ih _ (Nat.le_refl _) x hx
    · rw [List.getElem?_append_right (by omega), hlen, List.getElem?_eq_none (by simp; omega)] at hx
      cases hx
theorem srch_path {l : List It} {wd tl : Int} {all : Bool} {x : WY} (h : srch l wd tl all = some x) : PathTo l wd tl all (brks l).length x := fnd_path _ _ _ (by rw [plc_len]; omega) h
/-! ### a way, walked -/
theorem stepW_snoc (l : List It) (wd tl t : Int) : ∀ (es : List Int) (f : Int) (y : WY) (m : Bool), stepW l wd tl f y m (es ++ [t]) = (stepW l wd tl f y m es).bind fun p => stepW l wd tl (es.getLastD f) p.1 p.2 [t]
  | [], f, y, m => rfl
  | e :: es, f, y, m => by
    rw [List.cons_append, stepW, stepW]
    split
    · rw [stepW_snoc l wd tl t es]
      simp only [List.getLastD_cons]
    · rfl
theorem path_walk {l : List It} {wd tl : Int} {all : Bool} {k : Nat} {x : WY} (h : PathTo l wd tl all k x) : ∃ mb, stepW l wd tl (-1) wy0 true x.ends = some (x, mb) ∧ x.ends.getLastD (-1) = plcAt l k ∧ (all = false → mb = true) ∧ (1 ≤ k → x.ends ≠ []) := by
  induction h with
  | nil => exact ⟨true, rfl, rfl, fun _ => rfl, fun h => absurd h (by omega)⟩
  | @step i k y hp hik hk hb hm ih =>
    obtain ⟨mb, h1, h2, h3, h4⟩ := ih
    refine ⟨mb && (lineD l wd tl (plcAt l i) (plcAt l k)).may, ?_, ?_, fun ha => ?_, fun _ => ?_⟩
    · show stepW l wd tl (-1) wy0 true (y.ends ++ [plcAt l k]) = _
      rw [stepW_snoc, h1]
      simp only [Option.bind_some]
      rw [h2, stepW, if_pos ⟨plc_lt hik hk, plc_mem (by omega) hk, hb⟩, stepW]
    · show (y.ends ++ [plcAt l k]).getLastD (-1) = _
      simp
    · rw [h3 ha, Bool.true_and]
      rw [ha] at hm
      simpa using hm
    · show y.ends ++ [plcAt l k] ≠ []
      simp
/-! ### where there is a way, one is found -/
theorem offo_some {b : Option WY} {w : Option WY} (h : b.isSome ∨ w.isSome) : (offo b w).isSome := by
  cases w with
  | none => simpa [offo] using h
  | some x =>
    cases b with
    | none => rfl
    | some z =>
      simp only [offo, offr]
      split <;> rfl
theorem bestTo_some {l : List It} {wd tl : Int} {all : Bool} {f : List (Option WY)} {k i : Nat} (hb : (byWay l wd tl all f k i).isSome) : ∀ n, i < n → (bestTo l wd tl all f k n).isSome
  | 0, h => absurd h (by omega)
  | n + 1, h => by
    rw [bestTo]
    refine offo_some ?_
    by_cases e : i = n
    · exact .inr (by rw [← e]; exact hb)
    · exact .inl (bestTo_some hb n (by omega))
theorem fnd_old {l : List It} {wd tl : Int} {all : Bool} {k i : Nat} (h : i ≤ k) : (fnd l wd tl all (k + 1))[i]? = (fnd l wd tl all k)[i]? := by
  rw [fnd, List.getElem?_append_left (by rw [fnd_len]; omega)]
theorem fnd_up {l : List It} {wd tl : Int} {all : Bool} {k i : Nat} : ∀ d, i ≤ k → (fnd l wd tl all (k + d))[i]? = (fnd l wd tl all k)[i]?
  | 0, _ => rfl
  | d + 1, h => by rw [← Nat.add_assoc, fnd_old (by omega), fnd_up d h]
theorem fnd_at {l : List It} {wd tl : Int} {all : Bool} {k i : Nat} (h : i ≤ k) : (fnd l wd tl all k)[i]? = (fnd l wd tl all i)[i]? := by
  have := fnd_up (l := l) (wd := wd) (tl := tl) (all := all) (k := i) (i := i) (k - i) (Nat.le_refl _)
  rw [show i + (k - i) = k by omega] at this
  exact this
theorem fnd_some {l : List It} {wd tl : Int} {all : Bool} {k : Nat} {y : WY} (h : PathTo l wd tl all k y) : ((fnd l wd tl all k)[k]?.join).isSome := by
  induction h with
  | nil => rfl
  | @step i k y hp hik hk hb hm ih =>
    obtain ⟨j, rfl⟩ : ∃ j, k = j + 1 := ⟨k - 1, by omega⟩
    rw [fnd, List.getElem?_append_right (by rw [fnd_len]; omega), fnd_len, Nat.sub_self]
    simp only [List.getElem?_cons_zero, Option.join_some]
    refine bestTo_some (i := i) ?_ _ hik
    obtain ⟨x, hx⟩ := Option.isSome_iff_exists.1 ih
    have hx' : (fnd l wd tl all j)[i]?.join = some x := by rw [fnd_at (by omega)]; exact hx
    unfold byWay
    rw [if_pos hb, hx']
    simp only [Option.bind_some, hm, if_true, Option.isSome_some]
theorem srch_some {l : List It} {wd tl : Int} {all : Bool} {y : WY} (h : PathTo l wd tl all (brks l).length y) : (srch l wd tl all).isSome := fnd_some h
theorem brks_pos (l : List It) : 0 < (brks l).length := by rw [brks_len]; omega
theorem srch_all {l : List It} {wd tl : Int} (hb : bx l (-1) l.length = true) : (srch l wd tl true).isSome :=
  srch_some (.step .nil (brks_pos l) (by rw [plc_len]; omega) (by rw [plc_zero, plc_last]; exact hb) (by simp))
/-- the best way is a way; one that may be, if there is one that may be -/
theorem best_path {l : List It} {wd tl : Int} (hn : l.length ≤ 600) (hb : bx l (-1) l.length = true) : ∃ all, srch l wd tl all = some (bestP l wd tl) ∧ PathTo l wd tl all (brks l).length (bestP l wd tl) ∧ (all = true → srch l wd tl false = none) := by
  unfold bestP
  rw [if_neg (by rw [hb]; simp; omega)]
  cases h : srch l wd tl false with
  | some w => exact ⟨false, h, srch_path h, fun e => by cases e⟩
  | none =>
    obtain ⟨w, hw⟩ := Option.isSome_iff_exists.1 (srch_all (wd := wd) (tl := tl) hb)
    rw [hw]
    exact ⟨true, hw, srch_path hw, fun _ => rfl⟩
theorem best_walk {l : List It} {wd tl : Int} (hn : l.length ≤ 600) (hb : bx l (-1) l.length = true) : ∃ mb, stepW l wd tl (-1) wy0 true (bestP l wd tl).ends = some (bestP l wd tl, mb) ∧ (bestP l wd tl).ends.getLast? = some (l.length : Int) ∧ ((srch l wd tl false).isSome → mb = true) := by
  obtain ⟨all, h1, h2, h3⟩ := best_path (wd := wd) (tl := tl) hn hb
  obtain ⟨mb, h4, h5, h6, h7⟩ := path_walk h2
  refine ⟨mb, h4, ?_, fun hs => ?_⟩
  · have hne := h7 (brks_pos l)
    rw [plc_last] at h5
    rw [← h5]
    cases he : (bestP l wd tl).ends with
    | nil => exact absurd he hne
    | cons a t => simp [List.getLast?_cons, List.getLastD_cons]
  · cases all with
    | false => exact h6 rfl
    | true => rw [h3 rfl] at hs; cases hs
theorem badOf_yes {d y z : Int} (h : (badOf d y z).2 = true) : ¬ (min z 10000 < min (-d) 10000 ∧ d < 0 ∧ 0 ≤ z) := by
  unfold badOf badC at h
  unfold cutZ at h
  rintro ⟨h1, h2, h3⟩
  split at h
  · omega
  · split at h
    · omega
    · split at h
      · omega
      · split at h
        · cases h
        · omega
theorem over_iff {l : List It} {wd tl f t : Int} (hwd : 0 ≤ wd) (hw : (line l f t).w ≤ 10000) (hz : (line l f t).z ≤ 10000) : (lineD l wd tl f t).over = decide (wd < (line l f t).w - (line l f t).z) := by
  have hb := line_bd l f t
  unfold lineD
  cases hbd : (badL l wd f t).2 with
  | true =>
    rw [if_pos rfl]
    simp only
    symm
    rw [decide_eq_false_iff_not]
    unfold badL at hbd
    split at hbd
    · omega
    · have := badOf_yes hbd
      omega
  | false =>
    rw [if_neg (by simp)]
    simp only
    symm
    rw [decide_eq_true_iff]
    unfold badL at hbd
    split at hbd
    · cases hbd
    · have := badOf_no hbd
      omega
end Go.Proofs.Ytnojikbecohhfaa
