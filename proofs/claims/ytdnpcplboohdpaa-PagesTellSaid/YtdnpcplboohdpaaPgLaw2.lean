/- The plain law of pages, continued: no way of all lines is less than the best one; what ends tell of a way. No program in sight. -/
import Derived.Test.YtdnpcplboohdpaaPgLaw
namespace Go.Proofs.Ytdnpcplboohdpaa
set_option linter.unusedSimpArgs false
set_option linter.unusedVariables false

theorem ejP_same {l : List LN} {a f : Nat} (hf : a ≤ f) (h : f ≤ ejP l a) (ha : a ≤ l.length) : ejP l f = ejP l a := by
  have hl := ejP_le ha
  have hg := ejP_le (l := l) (a := f) (by omega)
  rcases Nat.lt_trichotomy (ejP l f) (ejP l a) with h1 | h1 | h1
  · obtain ⟨x, hx, he⟩ := ejP_at (l := l) (a := f) (by omega)
    have := ejP_before (a := a) (by omega) h1 hx
    rw [he] at this; cases this
  · exact h1
  · obtain ⟨x, hx, he⟩ := ejP_at (l := l) (a := a) (by omega)
    have := ejP_before (a := f) (by omega) h1 hx
    rw [he] at this; cases this
theorem whole_cut {l : List LN} {h : Int} {a : Nat} (ha : a ≤ l.length) {f : Nat} {E : List Int} {c : Int} (hw : Whole l h f E c) : ∀ {k : Nat} {E1 : List Int} {c1 : Int}, f = a + k → f ≤ ejP l a → Way l a h k E1 c1 →
    ∃ (E' : List Int) (c' : Int) (E2 : List Int) (c2 : Int), Way l a h (ejP l a - a) (E1 ++ E') (c1 + c') ∧ Whole l h (ejP l a) E2 c2 ∧ E = E' ++ E2 ∧ c = c' + c2 := by
  have hle := ejP_le ha
  have hstop : ∀ {f : Nat} {E : List Int} {c : Int}, Whole l h f E c → f = ejP l a → ∀ {k : Nat} {E1 : List Int} {c1 : Int}, f = a + k → Way l a h k E1 c1 →
      ∃ (E' : List Int) (c' : Int) (E2 : List Int) (c2 : Int), Way l a h (ejP l a - a) (E1 ++ E') (c1 + c') ∧ Whole l h (ejP l a) E2 c2 ∧ E = E' ++ E2 ∧ c = c' + c2 := by
    intro f E c hw he k E1 c1 hk h1
    refine ⟨[], 0, E, c, ?_, by rw [← he]; exact hw, rfl, by omega⟩
    rw [show ejP l a - a = k by omega, List.append_nil, Int.add_zero]
    exact h1
  induction hw with
  | done hd => intro k E1 c1 hk hf h1; exact hstop (.done hd) (by omega) hk h1
  | skip hx he hw ih =>
    intro k E1 c1 hk hf h1
    rename_i f E c x
    rcases Nat.lt_or_ge f (ejP l a) with h2 | h2
    · have := ejP_before (a := a) (by omega) h2 hx
      rw [he] at this; cases this
    · exact hstop (.skip hx he hw) (by omega) hk h1
  | page ho hw ih =>
    intro k E1 c1 hk hf h1
    rename_i f b E c
    rcases Nat.lt_or_ge f (ejP l a) with h2 | h2
    · obtain ⟨g1, g2, g3, g4⟩ := pgOk_iff.1 ho
      rw [ejP_same (by omega) hf ha] at g4
      obtain ⟨k', rfl⟩ : ∃ k', b = a + k' := ⟨b - a, by omega⟩
      subst hk
      obtain ⟨E', c', E2, c2, q1, q2, q3, q4⟩ := ih rfl g4 (.snoc h1 (by omega) ho)
      refine ⟨((a + k' : Nat) : Int) :: E', price l (a + k : Nat) (a + k' : Nat) h + c', E2, c2, ?_, q2, by rw [q3]; rfl, by rw [q4]; omega⟩
      rw [List.append_assoc, Int.add_assoc] at q1
      exact q1
    · exact hstop (.page ho hw) (by omega) hk h1
theorem lt_left : ∀ (a x y : List Int), a ++ x < a ++ y ↔ x < y
  | [], x, y => Iff.rfl
  | z :: a, x, y => by
    rw [List.cons_append, List.cons_append, List.cons_lt_cons_iff, lt_left a x y]
    constructor
    · rintro (h | ⟨-, h⟩)
      · omega
      · exact h
    · exact fun h => .inr ⟨rfl, h⟩
theorem leW_cat {l : List LN} {a : Nat} {h : Int} {k : Nat} {E1 E1' E2 E2' : List Int} {c1 c1' c2 c2' : Int} (hw' : Way l a h k E1' c1') (hw : Way l a h k E1 c1) (h1 : leW ⟨E1', c1'⟩ ⟨E1, c1⟩) (h2 : leW ⟨E2', c2'⟩ ⟨E2, c2⟩) :
    leW ⟨E1' ++ E2', c1' + c2'⟩ ⟨E1 ++ E2, c1 + c2⟩ := by
  rcases h1 with h1 | ⟨e1, h1⟩ <;> rcases h2 with h2 | ⟨e2, h2⟩
  · exact .inl (by simp only at h1 h2 ⊢; omega)
  · exact .inl (by simp only at h1 e2 ⊢; omega)
  · exact .inl (by simp only at e1 h2 ⊢; omega)
  · refine .inr ⟨by simp only at e1 e2 ⊢; omega, ?_⟩
    simp only at h1 h2 ⊢
    by_cases h3 : E1' < E1
    · exact lt_asy (lt_app _ _ _ _ h3 (fun hp => by rw [way_pre hw' hw hp] at h3; exact lt_irr _ h3))
    · rw [lt_tri _ _ h3 h1, lt_left]
      exact h2
theorem allW_least {l : List LN} {h : Int} (h1 : 1 ≤ h) : ∀ (q f : Nat) (acc : WY), l.length + 1 ≤ f + q → ∀ (E : List Int) (c : Int), Whole l h f E c → ∃ E' c', allW l h q f acc = ⟨acc.ends ++ E', acc.total + c'⟩ ∧ leW ⟨E', c'⟩ ⟨E, c⟩
  | 0, f, acc, hq, E, c, hw => by
    obtain ⟨rfl, rfl⟩ := whole_end (by omega) hw
    exact ⟨[], 0, by rw [allW]; simp, leW_refl _⟩
  | q + 1, f, acc, hq, E, c, hw => by
    rw [allW]
    by_cases hf : f ≤ l.length
    · rw [if_pos hf]
      have hle := ejP_le hf
      obtain ⟨hs, hb⟩ := sec_best (h := h) h1 hf
      obtain ⟨E1, c1, E2, c2, g1, g2, rfl, rfl⟩ := whole_cut hf hw (k := 0) rfl hle.1 .nil
      rw [List.nil_append, Int.zero_add] at g1
      have g3 : Whole l h (ejP l f + 1) E2 c2 := by
        rcases Nat.lt_or_ge (ejP l f) l.length with ht | ht
        · obtain ⟨x, hx, hej⟩ := ejP_at ht
          exact whole_ej hx hej g2
        · obtain ⟨rfl, rfl⟩ := whole_end (by omega) g2
          exact .done (by omega)
      obtain ⟨E', c', e, hl⟩ := allW_least h1 q (ejP l f + 1) ⟨acc.ends ++ (secP l f (ejP l f) h).ends, acc.total + (secP l f (ejP l f) h).total⟩ (by omega) E2 c2 g3
      exact ⟨(secP l f (ejP l f) h).ends ++ E', (secP l f (ejP l f) h).total + c', by rw [e, List.append_assoc, Int.add_assoc], leW_cat hs g1 (hb E1 c1 g1) hl⟩
    · rw [if_neg hf]
      obtain ⟨rfl, rfl⟩ := whole_end (by omega) hw
      exact ⟨[], 0, by simp, leW_refl _⟩
theorem best_least {l : List LN} {h : Int} (h3 : 3 ≤ h) (h20 : h ≤ 20) (hn : l.length ≤ 300) {E : List Int} {c : Int} (hw : Whole l h 0 E c) : leW (bestP l h) ⟨E, c⟩ := by
  unfold bestP
  rw [if_pos ⟨h3, h20, hn⟩]
  obtain ⟨E', c', e, hl⟩ := allW_least (l := l) (h := h) (by omega) (l.length + 1) 0 ⟨[], 0⟩ (by omega) E c hw
  rw [e]
  simpa using hl
/-! ### what ends tell -/
/-- the first line from a place on that is no eject, or behind all -/
def skE (l : List LN) (f : Nat) : Nat := f + (l.drop f).findIdx (fun x => !x.ej)
theorem skE_le {l : List LN} {a : Nat} (h : a ≤ l.length) : a ≤ skE l a ∧ skE l a ≤ l.length := by
  unfold skE
  have := List.findIdx_le_length (xs := l.drop a) (p := fun x : LN => !x.ej)
  rw [List.length_drop] at this
  omega
theorem skE_end {l : List LN} {a : Nat} (h : l.length ≤ a) : skE l a = a := by
  unfold skE
  rw [List.drop_of_length_le h]
  rfl
theorem skE_ej {l : List LN} {a : Nat} {x : LN} (hx : l[a]? = some x) (he : x.ej = true) : skE l a = skE l (a + 1) := by
  obtain ⟨ha, hg⟩ := List.getElem?_eq_some_iff.1 hx
  unfold skE
  rw [List.drop_eq_getElem_cons ha, hg, List.findIdx_cons]
  simp [he]
  omega
theorem skE_no {l : List LN} {a : Nat} {x : LN} (hx : l[a]? = some x) (he : x.ej = false) : skE l a = a := by
  obtain ⟨ha, hg⟩ := List.getElem?_eq_some_iff.1 hx
  unfold skE
  rw [List.drop_eq_getElem_cons ha, hg, List.findIdx_cons]
  simp [he]
def totE (l : List LN) (h : Int) : Nat → List Int → Int → Int × Bool
  | f, [], n => (n, decide (skE l f = l.length))
  | f, e :: E, n => if pgOk l (skE l f : Nat) e h then totE l h e.toNat E (n + price l (skE l f : Nat) e h) else (0, false)
theorem whole_sk {l : List LN} {h : Int} : ∀ (q f : Nat), l.length ≤ f + q → f ≤ l.length → ∀ {E : List Int} {c : Int}, (Whole l h (skE l f) E c ↔ Whole l h f E c)
  | 0, f, hq, hf, E, c => by rw [skE_end (by omega)]
  | q + 1, f, hq, hf, E, c => by
    rcases Nat.lt_or_ge f l.length with h1 | h1
    · have hx : l[f]? = some l[f] := List.getElem?_eq_getElem h1
      cases he : (l[f]).ej with
      | true =>
        rw [skE_ej hx he, whole_sk q (f + 1) (by omega) h1]
        exact ⟨fun hw => .skip hx he hw, fun hw => whole_ej hx he hw⟩
      | false => rw [skE_no hx he]
    · rw [skE_end h1]
theorem tot_of {l : List LN} {h : Int} : ∀ (E : List Int) (f : Nat) (n m : Int), f ≤ l.length → totE l h f E n = (m, true) → Whole l h f E (m - n)
  | [], f, n, m, hf, ht => by
    rw [totE, Prod.mk.injEq, decide_eq_true_iff] at ht
    obtain ⟨rfl, ht⟩ := ht
    rw [Int.sub_self, ← whole_sk l.length f (by omega) hf]
    exact .done (by omega)
  | e :: E, f, n, m, hf, ht => by
    rw [totE] at ht
    by_cases ho : pgOk l (skE l f : Nat) e h = true
    · rw [if_pos ho] at ht
      have he : ((e.toNat : Nat) : Int) = e := by
        unfold pgOk at ho
        rw [Bool.and_eq_true, decide_eq_true_iff] at ho
        omega
      rw [← he] at ho
      obtain ⟨g1, g2, g3, g4⟩ := pgOk_iff.1 ho
      have hw := tot_of E e.toNat _ m g2 ht
      rw [← whole_sk l.length f (by omega) hf]
      have := Whole.page ho hw
      rw [he] at this
      rw [show m - n = price l (skE l f : Nat) e h + (m - (n + price l (skE l f : Nat) e h)) by omega]
      exact this
    · rw [if_neg ho] at ht; cases ht
theorem of_tot {l : List LN} {h : Int} {f : Nat} {E : List Int} {c : Int} (hw : Whole l h f E c) : f ≤ l.length → ∀ n, totE l h f E n = (n + c, true) := by
  induction hw with
  | done hd => intro hf n; rw [totE, skE_end hd, Int.add_zero, decide_eq_true (by omega)]
  | skip hx he hw ih =>
    intro hf n
    rename_i f E c x
    have := (List.getElem?_eq_some_iff.1 hx).1
    rw [← ih this n]
    cases E <;> rw [totE, totE, skE_ej hx he]
  | page ho hw ih =>
    intro hf n
    rename_i f b E c
    obtain ⟨g1, g2, g3, g4⟩ := pgOk_iff.1 ho
    have hx : l[f]? = some (l[f]'(by omega)) := List.getElem?_eq_getElem _
    rw [totE, skE_no hx (ejP_before (a := f) (Nat.le_refl _) (by omega) hx), if_pos ho]
    have := ih g2 (n + price l (f : Nat) (b : Nat) h)
    rw [Int.add_assoc] at this
    exact this
end Go.Proofs.Ytdnpcplboohdpaa
