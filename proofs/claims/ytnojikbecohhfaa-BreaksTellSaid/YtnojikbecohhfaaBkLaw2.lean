/- Breaks in plain Lean: no way is less than the one found. -/
import Derived.Test.YtnojikbecohhfaaBkLaw
namespace Go.Proofs.Ytnojikbecohhfaa
set_option linter.unusedSimpArgs false
set_option linter.unusedVariables false

/-! ### the order of ways -/
theorem cmpL_lt : ∀ (a b : List Int), cmpL a b < 0 ↔ a < b
  | [], [] => by simp [cmpL]
  | [], y :: b => by simp [cmpL]
  | x :: a, [] => by simp [cmpL]
  | x :: a, y :: b => by
    rw [cmpL, List.cons_lt_cons_iff]
    by_cases h1 : x < y
    · rw [if_pos h1]; simp [h1]
    · rw [if_neg h1]
      by_cases h2 : y < x
      · rw [if_pos h2]; simp; omega
      · rw [if_neg h2, cmpL_lt a b]
        have : x = y := by omega
        subst this; simp
theorem lt_tri : ∀ (a b : List Int), ¬ a < b → ¬ b < a → a = b
  | [], [], _, _ => rfl
  | [], y :: b, h, _ => absurd (List.nil_lt_cons _ _) h
  | x :: a, [], _, h => absurd (List.nil_lt_cons _ _) h
  | x :: a, y :: b, h1, h2 => by
    rw [List.cons_lt_cons_iff] at h1 h2
    have e : x = y := by omega
    subst e
    rw [lt_tri a b (fun h => h1 (.inr ⟨rfl, h⟩)) (fun h => h2 (.inr ⟨rfl, h⟩))]
theorem lt_irr : ∀ (a : List Int), ¬ a < a
  | [] => by simp
  | x :: a => by rw [List.cons_lt_cons_iff]; rintro (h | ⟨_, h⟩); omega; exact lt_irr a h
theorem lt_tra : ∀ (a b c : List Int), a < b → b < c → a < c
  | [], _, [], h1, h2 => by
    rename_i b
    cases b with
    | nil => exact h1
    | cons y b => simp at h2
  | [], _, z :: c, h1, h2 => List.nil_lt_cons _ _
  | x :: a, [], c, h1, h2 => by simp at h1
  | x :: a, y :: b, [], h1, h2 => by simp at h2
  | x :: a, y :: b, z :: c, h1, h2 => by
    rw [List.cons_lt_cons_iff] at h1 h2 ⊢
    rcases h1 with h1 | ⟨e1, h1⟩ <;> rcases h2 with h2 | ⟨e2, h2⟩
    · exact .inl (by omega)
    · exact .inl (by omega)
    · exact .inl (by omega)
    · exact .inr ⟨by omega, lt_tra a b c h1 h2⟩
theorem lt_asy {a b : List Int} (h : a < b) : ¬ b < a := fun h2 => lt_irr a (lt_tra a b a h h2)
/-- the first place where they differ decides, if neither is the other's beginning -/
theorem lt_app : ∀ (a b x y : List Int), a < b → ¬ a <+: b → a ++ x < b ++ y
  | [], b, x, y, h1, h2 => absurd (List.nil_prefix) h2
  | x0 :: a, [], x, y, h1, h2 => by simp at h1
  | x0 :: a, y0 :: b, x, y, h1, h2 => by
    rw [List.cons_append, List.cons_append, List.cons_lt_cons_iff]
    rw [List.cons_lt_cons_iff] at h1
    rcases h1 with h1 | ⟨rfl, h1⟩
    · exact .inl h1
    · exact .inr ⟨rfl, lt_app a b x y h1 (fun h => h2 (by rw [List.cons_prefix_cons]; exact ⟨rfl, h⟩))⟩
def leW (y x : WY) : Prop := y.total < x.total ∨ (y.total = x.total ∧ ¬ x.ends < y.ends)
theorem leW_refl (x : WY) : leW x x := .inr ⟨rfl, lt_irr _⟩
theorem leW_trans {x y z : WY} (h1 : leW x y) (h2 : leW y z) : leW x z := by
  rcases h1 with h1 | ⟨e1, h1⟩ <;> rcases h2 with h2 | ⟨e2, h2⟩
  · exact .inl (by omega)
  · exact .inl (by omega)
  · exact .inl (by omega)
  · refine .inr ⟨by omega, fun h => ?_⟩
    by_cases h3 : y.ends < x.ends
    · exact h1 h3
    · by_cases h4 : x.ends < y.ends
      · exact h2 (lt_tra _ _ _ h h4)
      · rw [lt_tri _ _ h4 h3] at h
        exact h2 h
theorem bett_iff {a b : WY} : bett a b = true ↔ a.total < b.total ∨ (a.total = b.total ∧ a.ends < b.ends) := by
  unfold bett
  split
  · rename_i h
    rw [decide_eq_true_iff, cmpL_lt]
    constructor
    · exact fun h2 => .inr ⟨h, h2⟩
    · rintro (h2 | ⟨_, h2⟩)
      · omega
      · exact h2
  · rename_i h
    rw [decide_eq_true_iff]
    constructor
    · exact .inl
    · rintro (h2 | ⟨h3, _⟩)
      · exact h2
      · exact absurd h3 h
theorem leW_of {y x : WY} (h : bett x y = false) : leW y x := by
  have h' : ¬ bett x y = true := by rw [h]; simp
  rw [bett_iff] at h'
  rcases Int.lt_trichotomy y.total x.total with h1 | h1 | h1
  · exact .inl h1
  · exact .inr ⟨h1, fun h2 => h' (.inr ⟨h1.symm, h2⟩)⟩
  · exact absurd (.inl h1) h'
theorem leW_bett {y x : WY} (h : bett y x = true) : leW y x := by
  rw [bett_iff] at h
  rcases h with h | ⟨h1, h2⟩
  · exact .inl h
  · exact .inr ⟨h1, lt_asy h2⟩
/-! ### the best of many -/
theorem offr_best (b : Option WY) (w : WY) : ∃ z, offr b w = some z ∧ leW z w ∧ (∀ x, b = some x → leW z x) ∧ (z = w ∨ b = some z) := by
  cases b with
  | none => exact ⟨w, rfl, leW_refl w, fun x h => (by cases h), .inl rfl⟩
  | some x =>
    cases hb : bett w x with
    | true =>
      refine ⟨w, by simp [offr, hb], leW_refl w, fun x' h => ?_, .inl rfl⟩
      cases h; exact leW_bett hb
    | false =>
      refine ⟨x, by simp [offr, hb], leW_of hb, fun x' h => ?_, .inr rfl⟩
      cases h; exact leW_refl x
theorem bestTo_best {l : List It} {wd tl : Int} {all : Bool} {f : List (Option WY)} {k : Nat} : ∀ n i x, i < n → byWay l wd tl all f k i = some x → ∃ y, bestTo l wd tl all f k n = some y ∧ leW y x
  | 0, i, x, h, _ => absurd h (by omega)
  | n + 1, i, x, h, hx => by
    have ih := bestTo_best (l := l) (wd := wd) (tl := tl) (all := all) (f := f) (k := k) n
    rw [bestTo]
    cases hb : byWay l wd tl all f k n with
    | none =>
      rcases Nat.lt_or_ge i n with h3 | h3
      · exact ih i x h3 hx
      · obtain rfl : i = n := by omega
        rw [hb] at hx; cases hx
    | some v =>
      obtain ⟨z, e, z1, z2, z3⟩ := offr_best (bestTo l wd tl all f k n) v
      rw [offo, e]
      rcases Nat.lt_or_ge i n with h3 | h3
      · obtain ⟨y, g1, g2⟩ := ih i x h3 hx
        exact ⟨z, rfl, leW_trans (z2 y g1) g2⟩
      · obtain rfl : i = n := by omega
        rw [hb] at hx
        cases hx
        exact ⟨z, rfl, z1⟩
theorem path_zero {l : List It} {wd tl : Int} {all : Bool} {k : Nat} {x : WY} (h : PathTo l wd tl all k x) (hk : k = 0) : x = wy0 := by
  cases h with
  | nil => rfl
  | step hp hik hkk hb hm => omega
theorem path_sorted {l : List It} {wd tl : Int} {all : Bool} {k : Nat} {x : WY} (h : PathTo l wd tl all k x) : x.ends.Pairwise (· < ·) ∧ ∀ e ∈ x.ends, e ≤ plcAt l k := by
  induction h with
  | nil => exact ⟨List.Pairwise.nil, fun e he => by simp [wy0] at he⟩
  | @step i k y hp hik hk hb hm ih =>
    obtain ⟨h1, h2⟩ := ih
    have hlt := plc_lt hik hk
    show (y.ends ++ [plcAt l k]).Pairwise (· < ·) ∧ ∀ e ∈ y.ends ++ [plcAt l k], e ≤ plcAt l k
    rw [List.pairwise_append]
    refine ⟨⟨h1, List.pairwise_singleton _ _, fun a ha b hb => ?_⟩, fun e he => ?_⟩
    · have := h2 a ha
      have : b = plcAt l k := by simpa using hb
      omega
    · rcases List.mem_append.1 he with he | he
      · have := h2 e he; omega
      · have : e = plcAt l k := by simpa using he
        omega
/-- two ways to one place: neither is the other's beginning -/
theorem path_pre {l : List It} {wd tl wd' tl' : Int} {all all' : Bool} {k : Nat} {x y : WY} (hx : PathTo l wd tl all k x) (hy : PathTo l wd' tl' all' k y) (h : x.ends <+: y.ends) : x.ends = y.ends := by
  by_cases hk : k = 0
  · rw [path_zero hx hk, path_zero hy hk]
  · obtain ⟨r, hr⟩ := h
    cases r with
    | nil => rw [← hr, List.append_nil]
    | cons a t =>
      obtain ⟨_, _, g1, _, g2⟩ := path_walk hx
      have hne := g2 (by omega)
      obtain ⟨s1, s2⟩ := path_sorted hy
      rw [← hr] at s1 s2
      have hm : plcAt l k ∈ x.ends := by
        cases he : x.ends with
        | nil => exact absurd he hne
        | cons b u =>
          rw [he, List.getLastD_cons] at g1
          rw [← g1]
          cases u with
          | nil => simp
          | cons d u => rw [List.getLastD_cons]; exact List.mem_cons_of_mem _ (by
              rw [List.getLastD_eq_getLast?]
              cases hq : u.getLast? with
              | none => simp
              | some v => exact List.mem_cons_of_mem _ (List.mem_of_getLast? hq))
      have h1 := (List.pairwise_append.1 s1).2.2 _ hm a (by simp)
      have h2 := s2 a (by simp)
      omega
theorem leW_with {l : List It} {wd tl : Int} {all all' : Bool} {i : Nat} {x y : WY} {t : Int} (hx : PathTo l wd tl all i x) (hy : PathTo l wd tl all' i y) (h : leW x y) : leW (withW l wd tl x (plcAt l i) t) (withW l wd tl y (plcAt l i) t) := by
  rcases h with h | ⟨e, h⟩
  · exact .inl (by unfold withW; simp only; omega)
  · refine .inr ⟨by unfold withW; simp only; omega, ?_⟩
    show ¬ y.ends ++ [t] < x.ends ++ [t]
    by_cases h3 : x.ends < y.ends
    · exact lt_asy (lt_app _ _ _ _ h3 (fun hp => by rw [path_pre hx hy hp] at h3; exact lt_irr _ h3))
    · rw [lt_tri _ _ h3 h]
      exact lt_irr _
theorem fnd_best {l : List It} {wd tl : Int} {all : Bool} {k : Nat} {y : WY} (h : PathTo l wd tl all k y) : ∃ x, (fnd l wd tl all k)[k]?.join = some x ∧ leW x y := by
  induction h with
  | nil => exact ⟨wy0, rfl, leW_refl _⟩
  | @step i k y hp hik hk hb hm ih =>
    obtain ⟨x, hx, hle⟩ := ih
    obtain ⟨j, rfl⟩ : ∃ j, k = j + 1 := ⟨k - 1, by omega⟩
    have hx' : (fnd l wd tl all j)[i]?.join = some x := by rw [fnd_at (by omega)]; exact hx
    have hpx : PathTo l wd tl all i x := fnd_path i i x (by omega) hx
    have hbw : byWay l wd tl all (fnd l wd tl all j) (j + 1) i = some (withW l wd tl x (plcAt l i) (plcAt l (j + 1))) := by
      unfold byWay
      rw [if_pos hb, hx']
      simp only [Option.bind_some, hm, if_true]
    obtain ⟨z, hz, hl⟩ := bestTo_best (j + 1) i _ hik hbw
    refine ⟨z, ?_, leW_trans hl (leW_with hpx hp hle)⟩
    rw [fnd, List.getElem?_append_right (by rw [fnd_len]; omega), fnd_len, Nat.sub_self]
    simp only [List.getElem?_cons_zero, Option.join_some]
    exact hz
theorem srch_least {l : List It} {wd tl : Int} {all : Bool} {y : WY} (h : PathTo l wd tl all (brks l).length y) : ∃ x, srch l wd tl all = some x ∧ leW x y := fnd_best h
end Go.Proofs.Ytnojikbecohhfaa
