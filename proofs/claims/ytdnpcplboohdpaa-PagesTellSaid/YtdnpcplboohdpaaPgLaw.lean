/- The plain law of pages: the best way is a way, and none is less. No program in sight. -/
import Derived.Test.YtdnpcplboohdpaaPgBest
namespace Go.Proofs.Ytdnpcplboohdpaa
set_option linter.unusedSimpArgs false
set_option linter.unusedVariables false

/-! ### the order of ways -/
theorem cmpL_lt : ∀ (a b : List Int), cmpL a b < 0 ↔ a < b
  | [], [] => by simp [cmpL]
  | [], y :: b => by simp [cmpL]
  | x :: a, [] => by simp [cmpL]
  | x :: a, y :: b => by
    rw [cmpL, List.cons_lt_cons_iff]
    by_cases h1 : x < y
    · rw [if_pos h1]; simp [h1]
    · rw [if_neg h1]
      by_cases h2 : y < x
      · rw [if_pos h2]; simp; omega
      · rw [if_neg h2, cmpL_lt a b]
        have : x = y := by omega
        subst this; simp
theorem lt_tri : ∀ (a b : List Int), ¬ a < b → ¬ b < a → a = b
  | [], [], _, _ => rfl
  | [], y :: b, h, _ => absurd (List.nil_lt_cons _ _) h
  | x :: a, [], _, h => absurd (List.nil_lt_cons _ _) h
  | x :: a, y :: b, h1, h2 => by
    rw [List.cons_lt_cons_iff] at h1 h2
    have e : x = y := by omega
    subst e
    rw [lt_tri a b (fun h => h1 (.inr ⟨rfl, h⟩)) (fun h => h2 (.inr ⟨rfl, h⟩))]
theorem lt_irr : ∀ (a : List Int), ¬ a < a
  | [] => by simp
  | x :: a => by rw [List.cons_lt_cons_iff]; rintro (h | ⟨_, h⟩); omega; exact lt_irr a h
theorem lt_tra : ∀ (a b c : List Int), a < b → b < c → a < c
  | [], _, [], h1, h2 => by
    rename_i b
    cases b with
    | nil => exact h1
    | cons y b => simp at h2
  | [], _, z :: c, h1, h2 => List.nil_lt_cons _ _
  | x :: a, [], c, h1, h2 => by simp at h1
  | x :: a, y :: b, [], h1, h2 => by simp at h2
  | x :: a, y :: b, z :: c, h1, h2 => by
    rw [List.cons_lt_cons_iff] at h1 h2 ⊢
    rcases h1 with h1 | ⟨e1, h1⟩ <;> rcases h2 with h2 | ⟨e2, h2⟩
    · exact .inl (by omega)
    · exact .inl (by omega)
    · exact .inl (by omega)
    · exact .inr ⟨by omega, lt_tra a b c h1 h2⟩
theorem lt_asy {a b : List Int} (h : a < b) : ¬ b < a := fun h2 => lt_irr a (lt_tra a b a h h2)
/-- the first place where they differ decides, if neither is the other's beginning -/
theorem lt_app : ∀ (a b x y : List Int), a < b → ¬ a <+: b → a ++ x < b ++ y
  | [], b, x, y, h1, h2 => absurd (List.nil_prefix) h2
  | x0 :: a, [], x, y, h1, h2 => by simp at h1
  | x0 :: a, y0 :: b, x, y, h1, h2 => by
    rw [List.cons_append, List.cons_append, List.cons_lt_cons_iff]
    rw [List.cons_lt_cons_iff] at h1
    rcases h1 with h1 | ⟨rfl, h1⟩
    · exact .inl h1
    · exact .inr ⟨rfl, lt_app a b x y h1 (fun h => h2 (by rw [List.cons_prefix_cons]; exact ⟨rfl, h⟩))⟩
def leW (y x : WY) : Prop := y.total < x.total ∨ (y.total = x.total ∧ ¬ x.ends < y.ends)
theorem leW_refl (x : WY) : leW x x := .inr ⟨rfl, lt_irr _⟩
theorem leW_trans {x y z : WY} (h1 : leW x y) (h2 : leW y z) : leW x z := by
  rcases h1 with h1 | ⟨e1, h1⟩ <;> rcases h2 with h2 | ⟨e2, h2⟩
  · exact .inl (by omega)
  · exact .inl (by omega)
  · exact .inl (by omega)
  · refine .inr ⟨by omega, fun h => ?_⟩
    by_cases h3 : y.ends < x.ends
    · exact h1 h3
    · by_cases h4 : x.ends < y.ends
      · exact h2 (lt_tra _ _ _ h h4)
      · rw [lt_tri _ _ h4 h3] at h
        exact h2 h
theorem bett_iff {a b : WY} : bett a b = true ↔ a.total < b.total ∨ (a.total = b.total ∧ a.ends < b.ends) := by
  unfold bett
  split
  · rename_i h
    rw [decide_eq_true_iff, cmpL_lt]
    constructor
    · exact fun h2 => .inr ⟨h, h2⟩
    · rintro (h2 | ⟨_, h2⟩)
      · omega
      · exact h2
  · rename_i h
    rw [decide_eq_true_iff]
    constructor
    · exact .inl
    · rintro (h2 | ⟨h3, _⟩)
      · exact h2
      · exact absurd h3 h
theorem leW_of {y x : WY} (h : bett x y = false) : leW y x := by
  have h' : ¬ bett x y = true := by rw [h]; simp
  rw [bett_iff] at h'
  rcases Int.lt_trichotomy y.total x.total with h1 | h1 | h1
  · exact .inl h1
  · exact .inr ⟨h1, fun h2 => h' (.inr ⟨h1.symm, h2⟩)⟩
  · exact absurd (.inl h1) h'
theorem leW_bett {y x : WY} (h : bett y x = true) : leW y x := by
  rw [bett_iff] at h
  rcases h with h | ⟨h1, h2⟩
  · exact .inl h
  · exact .inr ⟨h1, lt_asy h2⟩
/-! ### the best of many -/
theorem offr_best (b : Option WY) (w : WY) : ∃ z, offr b w = some z ∧ leW z w ∧ (∀ x, b = some x → leW z x) ∧ (z = w ∨ b = some z) := by
  cases b with
  | none => exact ⟨w, rfl, leW_refl w, fun x h => (by cases h), .inl rfl⟩
  | some x =>
    cases hb : bett w x with
    | true =>
      refine ⟨w, by simp [offr, hb], leW_refl w, fun x' h => ?_, .inl rfl⟩
      cases h; exact leW_bett hb
    | false =>
      refine ⟨x, by simp [offr, hb], leW_of hb, fun x' h => ?_, .inr rfl⟩
      cases h; exact leW_refl x
theorem bestTo_best {l : List LN} {a : Nat} {h : Int} {f : List (Option WY)} {k lo : Nat} : ∀ n,
    (∀ y, bestTo l a h f k lo n = some y → ∃ i, lo ≤ i ∧ i < lo + n ∧ byWay l a h f k i = some y) ∧ (∀ i x, lo ≤ i → i < lo + n → byWay l a h f k i = some x → ∃ y, bestTo l a h f k lo n = some y ∧ leW y x)
  | 0 => ⟨fun y hy => (by cases hy), fun i x h1 h2 => (by omega)⟩
  | n + 1 => by
    obtain ⟨ih1, ih2⟩ := bestTo_best (l := l) (a := a) (h := h) (f := f) (k := k) (lo := lo) n
    rw [bestTo]
    cases hb : byWay l a h f k (lo + n) with
    | none =>
      refine ⟨fun y hy => ?_, fun i x h1 h2 hx => ?_⟩
      · obtain ⟨i, g1, g2, g3⟩ := ih1 y hy
        exact ⟨i, g1, by omega, g3⟩
      · rcases Nat.lt_or_ge i (lo + n) with h3 | h3
        · exact ih2 i x h1 h3 hx
        · obtain rfl : i = lo + n := by omega
          rw [hb] at hx; cases hx
    | some v =>
      obtain ⟨z, e, z1, z2, z3⟩ := offr_best (bestTo l a h f k lo n) v
      rw [offo, e]
      refine ⟨fun y hy => ?_, fun i x h1 h2 hx => ?_⟩
      · cases hy
        rcases z3 with rfl | z3
        · exact ⟨lo + n, by omega, by omega, hb⟩
        · obtain ⟨i, g1, g2, g3⟩ := ih1 _ z3
          exact ⟨i, g1, by omega, g3⟩
      · rcases Nat.lt_or_ge i (lo + n) with h3 | h3
        · obtain ⟨y, hy, hle⟩ := ih2 i x h1 h3 hx
          exact ⟨z, rfl, leW_trans (z2 y hy) hle⟩
        · obtain rfl : i = lo + n := by omega
          rw [hb] at hx; cases hx
          exact ⟨z, rfl, z1⟩
/-! ### ways of a section -/
inductive Way (l : List LN) (a : Nat) (h : Int) : Nat → List Int → Int → Prop
  | nil : Way l a h 0 [] 0
  | snoc {i k : Nat} {E : List Int} {c : Int} : Way l a h i E c → i < k → pgOk l (a + i : Nat) (a + k : Nat) h = true → Way l a h k (E ++ [((a + k : Nat) : Int)]) (c + price l (a + i : Nat) (a + k : Nat) h)
theorem way_most {l : List LN} {a : Nat} {h : Int} {k : Nat} {E : List Int} {c : Int} (hw : Way l a h k E c) : ∀ z ∈ E, z ≤ ((a + k : Nat) : Int) := by
  induction hw with
  | nil => simp
  | snoc hw hi ho ih =>
    intro z hz
    rcases List.mem_append.1 hz with hz | hz
    · have := ih z hz; omega
    · rw [List.mem_singleton.1 hz]; omega
/-- two ways of the same lines: neither is the other's beginning -/
theorem way_pre {l : List LN} {a : Nat} {h : Int} {k : Nat} {E1 E2 : List Int} {c1 c2 : Int} (h1 : Way l a h k E1 c1) (h2 : Way l a h k E2 c2) (hp : E1 <+: E2) : E1 = E2 := by
  cases h1 with
  | nil =>
    cases h2 with
    | nil => rfl
    | snoc _ hi _ => omega
  | snoc h1 hi1 ho1 =>
    cases h2 with
    | nil => omega
    | snoc h2 hi2 ho2 =>
      rename_i i1 E1 c1 i2 E2 c2
      obtain ⟨t, ht⟩ := hp
      rcases List.eq_nil_or_concat t with rfl | ⟨t', z, rfl⟩
      · rw [List.append_nil] at ht; exact ht
      · rw [List.concat_eq_append, ← List.append_assoc] at ht
        have e := (List.append_inj' ht rfl).1
        have hm : ((a + k : Nat) : Int) ∈ E2 := by rw [← e]; simp
        have := way_most h2 _ hm
        omega
theorem leW_app {l : List LN} {a : Nat} {h : Int} {k : Nat} {E1 E2 : List Int} {c1 c2 : Int} (h1 : Way l a h k E1 c1) (h2 : Way l a h k E2 c2) (hle : leW ⟨E1, c1⟩ ⟨E2, c2⟩) (X : List Int) (p : Int) : leW ⟨E1 ++ X, c1 + p⟩ ⟨E2 ++ X, c2 + p⟩ := by
  rcases hle with hle | ⟨e, hle⟩
  · exact .inl (by simp only at hle ⊢; omega)
  · refine .inr ⟨by simp only at e ⊢; omega, ?_⟩
    simp only at hle ⊢
    by_cases h3 : E1 < E2
    · refine lt_asy (lt_app _ _ _ _ h3 (fun hp => ?_))
      rw [way_pre h1 h2 hp] at h3
      exact lt_irr _ h3
    · rw [lt_tri _ _ h3 hle]
      exact lt_irr _
theorem fnd_stab {l : List LN} {a : Nat} {h : Int} {i : Nat} : ∀ (k : Nat), i ≤ k → (fnd l a h k)[i]? = (fnd l a h i)[i]?
  | 0, hk => by obtain rfl : i = 0 := by omega
                rfl
  | k + 1, hk => by
    rcases Nat.lt_or_ge k i with h1 | h1
    · obtain rfl : i = k + 1 := by omega
      rfl
    · rw [fnd, List.getElem?_append_left (by rw [fnd_len]; omega)]
      exact fnd_stab k h1
theorem fnd_at {l : List LN} {a : Nat} {h : Int} (k : Nat) : (fnd l a h (k + 1))[k + 1]?.join = bestTo l a h (fnd l a h k) (k + 1) (loOf h (k + 1)) (k + 1 - loOf h (k + 1)) := by
  rw [fnd, List.getElem?_append_right (by rw [fnd_len]; exact Nat.le_refl _), fnd_len, Nat.sub_self]
  rfl
theorem fnd_way {l : List LN} {a : Nat} {h : Int} : ∀ (k : Nat) (w : WY), (fnd l a h k)[k]?.join = some w → Way l a h k w.ends w.total := by
  intro k
  induction k using Nat.strongRecOn with
  | ind k ih =>
    intro w hw
    cases k with
    | zero =>
      have : w = ⟨[], 0⟩ := by
        rw [fnd] at hw
        simpa using hw.symm
      rw [this]
      exact .nil
    | succ k =>
      rw [fnd_at] at hw
      obtain ⟨i, h1, h2, h3⟩ := (bestTo_best _).1 w hw
      unfold byWay at h3
      split at h3
      · rename_i ho
        have hik : i ≤ k := by omega
        rw [fnd_stab k hik] at h3
        cases hv : (fnd l a h i)[i]?.join with
        | none => rw [hv] at h3; cases h3
        | some v =>
          rw [hv] at h3
          cases h3
          exact .snoc (ih i (by omega) v hv) (by omega) ho
      · cases h3
theorem fnd_least {l : List LN} {a : Nat} {h : Int} : ∀ (k : Nat) (E : List Int) (c : Int), Way l a h k E c → ∃ w, (fnd l a h k)[k]?.join = some w ∧ leW w ⟨E, c⟩ := by
  intro k
  induction k using Nat.strongRecOn with
  | ind k ih =>
    intro E c hw
    cases hw with
    | nil => exact ⟨⟨[], 0⟩, rfl, leW_refl _⟩
    | snoc hw hi ho =>
      rename_i i E c
      cases k with
      | zero => omega
      | succ k =>
        obtain ⟨w', e, hle⟩ := ih i hi E c hw
        have hw' := fnd_way i w' e
        have hby : byWay l a h (fnd l a h k) (k + 1) i = some ⟨w'.ends ++ [((a + (k + 1) : Nat) : Int)], w'.total + price l (a + i : Nat) (a + (k + 1) : Nat) h⟩ := by
          unfold byWay
          rw [if_pos ho, fnd_stab k (by omega), e]
          rfl
        have hlo : loOf h (k + 1) ≤ i := by
          unfold pgOk at ho
          rw [Bool.and_eq_true, decide_eq_true_iff] at ho
          unfold loOf
          omega
        obtain ⟨y, hy, hyl⟩ := (bestTo_best (k + 1 - loOf h (k + 1))).2 i _ hlo (by omega) hby
        exact ⟨y, by rw [fnd_at]; exact hy, leW_trans hyl (leW_app hw' hw hle _ _)⟩
/-! ### a section has a way -/
theorem ejP_far {l : List LN} {a b : Nat} (h1 : a ≤ b) (ha : a ≤ l.length) (hb : b ≤ ejP l a) : ejP l a ≤ ejP l b := by
  have hle := ejP_le ha
  have hle2 := ejP_le (l := l) (a := b) (by omega)
  rcases Nat.lt_or_ge (ejP l b) (ejP l a) with h | h
  · obtain ⟨x, hx, he⟩ := ejP_at (l := l) (a := b) (by omega)
    have := ejP_before (a := a) (by omega) h hx
    rw [he] at this
    cases this
  · exact h
theorem way_some {l : List LN} {a : Nat} {h : Int} (h1 : 1 ≤ h) (ha : a ≤ l.length) : ∀ k, a + k ≤ ejP l a → ∃ E c, Way l a h k E c
  | 0, _ => ⟨[], 0, .nil⟩
  | k + 1, hk => by
    obtain ⟨E, c, hw⟩ := way_some h1 ha k (by omega)
    have hle := ejP_le ha
    refine ⟨_, _, .snoc hw (Nat.lt_succ_self k) ?_⟩
    have hf := ejP_far (l := l) (a := a) (b := a + k) (by omega) ha (by omega)
    unfold pgOk
    rw [Bool.and_eq_true, decide_eq_true_iff, decide_eq_true_iff]
    refine ⟨⟨by omega, by omega, by omega, by omega⟩, ?_⟩
    show ((a + (k + 1) : Nat) : Int) ≤ ((ejP l (a + k) : Nat) : Int)
    omega
theorem sec_best {l : List LN} {a : Nat} {h : Int} (h1 : 1 ≤ h) (ha : a ≤ l.length) :
    Way l a h (ejP l a - a) (secP l a (ejP l a) h).ends (secP l a (ejP l a) h).total ∧ ∀ E c, Way l a h (ejP l a - a) E c → leW (secP l a (ejP l a) h) ⟨E, c⟩ := by
  have hle := ejP_le ha
  obtain ⟨E, c, hw⟩ := way_some h1 ha (ejP l a - a) (by omega)
  obtain ⟨w, e, -⟩ := fnd_least _ E c hw
  have es : secP l a (ejP l a) h = w := by unfold secP; rw [e]; rfl
  rw [es]
  refine ⟨fnd_way _ w e, fun E' c' hw' => ?_⟩
  obtain ⟨w', e', hl'⟩ := fnd_least _ E' c' hw'
  rw [e] at e'
  cases e'
  exact hl'
/-! ### all lines -/
inductive Whole (l : List LN) (h : Int) : Nat → List Int → Int → Prop
  | done {f : Nat} : l.length ≤ f → Whole l h f [] 0
  | skip {f : Nat} {E : List Int} {c : Int} {x : LN} : l[f]? = some x → x.ej = true → Whole l h (f + 1) E c → Whole l h f E c
  | page {f b : Nat} {E : List Int} {c : Int} : pgOk l (f : Nat) (b : Nat) h = true → Whole l h b E c → Whole l h f ((b : Int) :: E) (price l (f : Nat) (b : Nat) h + c)
theorem pgOk_iff {l : List LN} {f b : Nat} {h : Int} : pgOk l (f : Nat) (b : Nat) h = true ↔ f < b ∧ b ≤ l.length ∧ (b : Int) - (f : Int) ≤ h ∧ b ≤ ejP l f := by
  unfold pgOk
  rw [Bool.and_eq_true, decide_eq_true_iff, decide_eq_true_iff]
  have : (((f : Nat) : Int)).toNat = f := rfl
  rw [this]
  constructor
  · rintro ⟨⟨h1, h2, h3, h4⟩, h5⟩; exact ⟨by omega, by omega, h4, by omega⟩
  · rintro ⟨h1, h2, h3, h4⟩; exact ⟨⟨by omega, by omega, by omega, h3⟩, by omega⟩
theorem way_whole {l : List LN} {a : Nat} {h : Int} {k : Nat} {E1 : List Int} {c1 : Int} (hw : Way l a h k E1 c1) : ∀ {E2 : List Int} {c2 : Int}, Whole l h (a + k) E2 c2 → Whole l h a (E1 ++ E2) (c1 + c2) := by
  induction hw with
  | nil => intro E2 c2 h2; rw [Int.zero_add]; exact h2
  | snoc hw hi ho ih =>
    intro E2 c2 h2
    rw [List.append_assoc, Int.add_assoc]
    exact ih (.page ho h2)
theorem whole_ej {l : List LN} {h : Int} {f : Nat} {E : List Int} {c : Int} {x : LN} (hx : l[f]? = some x) (he : x.ej = true) (hw : Whole l h f E c) : Whole l h (f + 1) E c := by
  have hf := (List.getElem?_eq_some_iff.1 hx).1
  cases hw with
  | done hd => omega
  | skip _ _ hw => exact hw
  | page ho hw =>
    obtain ⟨h1, h2, h3, h4⟩ := pgOk_iff.1 ho
    have := ejP_before (a := f) (Nat.le_refl _) (by omega) hx
    rw [he] at this; cases this
theorem whole_pg {l : List LN} {h : Int} {f : Nat} {E : List Int} {c : Int} {x : LN} (hx : l[f]? = some x) (he : x.ej = false) (hw : Whole l h f E c) :
    ∃ (b : Nat) (E' : List Int) (c' : Int), E = (b : Int) :: E' ∧ c = price l (f : Nat) (b : Nat) h + c' ∧ pgOk l (f : Nat) (b : Nat) h = true ∧ Whole l h b E' c' := by
  have hf := (List.getElem?_eq_some_iff.1 hx).1
  cases hw with
  | done hd => omega
  | skip hx' he' _ => rw [hx] at hx'; cases hx'; rw [he] at he'; cases he'
  | page ho hw => exact ⟨_, _, _, rfl, rfl, ho, hw⟩
theorem whole_end {l : List LN} {h : Int} {f : Nat} {E : List Int} {c : Int} (hf : l.length ≤ f) (hw : Whole l h f E c) : E = [] ∧ c = 0 := by
  cases hw with
  | done hd => exact ⟨rfl, rfl⟩
  | skip hx _ _ => have := (List.getElem?_eq_some_iff.1 hx).1; omega
  | page ho _ => obtain ⟨h1, h2, h3, h4⟩ := pgOk_iff.1 ho; omega
theorem allW_whole {l : List LN} {h : Int} (h1 : 1 ≤ h) : ∀ (q f : Nat) (acc : WY), l.length + 1 ≤ f + q → ∃ E c, allW l h q f acc = ⟨acc.ends ++ E, acc.total + c⟩ ∧ Whole l h f E c
  | 0, f, acc, hq => ⟨[], 0, by rw [allW]; simp, .done (by omega)⟩
  | q + 1, f, acc, hq => by
    rw [allW]
    by_cases hf : f ≤ l.length
    · rw [if_pos hf]
      have hle := ejP_le hf
      have hs := (sec_best (h := h) h1 hf).1
      obtain ⟨E, c, e, hw⟩ := allW_whole (l := l) h1 q (ejP l f + 1) ⟨acc.ends ++ (secP l f (ejP l f) h).ends, acc.total + (secP l f (ejP l f) h).total⟩ (by omega)
      refine ⟨(secP l f (ejP l f) h).ends ++ E, (secP l f (ejP l f) h).total + c, by rw [e, List.append_assoc, Int.add_assoc], way_whole hs ?_⟩
      rw [show f + (ejP l f - f) = ejP l f by omega]
      rcases Nat.lt_or_ge (ejP l f) l.length with ht | ht
      · obtain ⟨x, hx, hej⟩ := ejP_at ht
        exact .skip hx hej hw
      · obtain ⟨rfl, rfl⟩ := whole_end (by omega) hw
        exact .done ht
    · rw [if_neg hf]
      exact ⟨[], 0, by simp, .done (by omega)⟩
theorem best_whole {l : List LN} {h : Int} (h3 : 3 ≤ h) (h20 : h ≤ 20) (hn : l.length ≤ 300) : Whole l h 0 (bestP l h).ends (bestP l h).total := by
  unfold bestP
  rw [if_pos ⟨h3, h20, hn⟩]
  obtain ⟨E, c, e, hw⟩ := allW_whole (l := l) (h := h) (by omega) (l.length + 1) 0 ⟨[], 0⟩ (by omega)
  rw [e]
  simpa using hw
end Go.Proofs.Ytdnpcplboohdpaa
