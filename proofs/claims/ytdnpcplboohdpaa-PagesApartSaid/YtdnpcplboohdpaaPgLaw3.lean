/- The plain law of pages, continued: sections are broken by themselves. No program in sight. -/
import Derived.Test.YtdnpcplboohdpaaPgLaw
namespace Go.Proofs.Ytdnpcplboohdpaa
set_option linter.unusedSimpArgs false
set_option linter.unusedVariables false

theorem ejP_left {a b : List LN} {e : LN} (he : e.ej = true) {x : Nat} (hx : x ≤ a.length) : ejP (a ++ e :: b) x = ejP a x := by
  unfold ejP
  rw [List.drop_append_of_le_length hx, List.findIdx_append]
  split
  · rfl
  · rename_i h
    have := List.findIdx_le_length (xs := a.drop x) (p := LN.ej)
    rw [List.findIdx_cons, he]
    simp
    rw [List.length_drop] at h this
    omega
theorem drop_right {a b : List LN} {e : LN} (y : Nat) : (a ++ e :: b).drop (a.length + 1 + y) = b.drop y := by
  rw [Nat.add_assoc, ← List.drop_drop, List.drop_left, Nat.add_comm 1 y, List.drop_succ_cons]
theorem at_right {a b : List LN} {e : LN} (y : Nat) : (a ++ e :: b)[a.length + 1 + y]? = b[y]? := by
  rw [List.getElem?_append_right (by omega), show a.length + 1 + y - a.length = y + 1 by omega, List.getElem?_cons_succ]
theorem ejP_right {a b : List LN} {e : LN} (y : Nat) : ejP (a ++ e :: b) (a.length + 1 + y) = a.length + 1 + ejP b y := by
  unfold ejP
  rw [drop_right, Nat.add_assoc]
theorem price_left {a b : List LN} {e : LN} (he : e.ej = true) {f t : Nat} {h : Int} (h1 : 1 ≤ t) (h2 : t ≤ a.length) : price (a ++ e :: b) (f : Nat) (t : Nat) h = price a (f : Nat) (t : Nat) h := by
  unfold price
  rw [show ((t : Nat) : Int).toNat = t from rfl, List.getElem?_append_left (show t - 1 < a.length by omega)]
  rcases Nat.lt_or_ge t a.length with h3 | h3
  · rw [List.getElem?_append_left h3]
  · obtain rfl : t = a.length := by omega
    rw [List.getElem?_append_right (Nat.le_refl _), Nat.sub_self, List.getElem?_cons_zero, List.getElem?_eq_none (Nat.le_refl _), List.getElem?_eq_getElem (show a.length - 1 < a.length by omega)]
    simp [he]
theorem price_right {a b : List LN} {e : LN} {f t : Nat} {h : Int} (h1 : 1 ≤ t) : price (a ++ e :: b) ((a.length + 1 + f : Nat)) ((a.length + 1 + t : Nat)) h = price b (f : Nat) (t : Nat) h := by
  unfold price lack
  rw [show ((t : Nat) : Int).toNat = t from rfl, show ((a.length + 1 + t : Nat) : Int).toNat = a.length + 1 + t from rfl, at_right, show a.length + 1 + t - 1 = a.length + 1 + (t - 1) by omega, at_right,
    show ((a.length + 1 + t : Nat) : Int) - ((a.length + 1 + f : Nat) : Int) = (t : Int) - (f : Int) by omega]
theorem pgOk_left {a b : List LN} {e : LN} (he : e.ej = true) {f t : Nat} {h : Int} (h2 : t ≤ a.length) : pgOk (a ++ e :: b) (f : Nat) (t : Nat) h = pgOk a (f : Nat) (t : Nat) h := by
  rw [Bool.eq_iff_iff, pgOk_iff, pgOk_iff, List.length_append, List.length_cons]
  constructor
  · rintro ⟨g1, g2, g3, g4⟩
    rw [ejP_left he (by omega)] at g4
    exact ⟨g1, h2, g3, g4⟩
  · rintro ⟨g1, g2, g3, g4⟩
    rw [← ejP_left (b := b) he (by omega)] at g4
    exact ⟨g1, by omega, g3, g4⟩
theorem pgOk_right {a b : List LN} {e : LN} {f t : Nat} {h : Int} : pgOk (a ++ e :: b) ((a.length + 1 + f : Nat)) ((a.length + 1 + t : Nat)) h = pgOk b (f : Nat) (t : Nat) h := by
  rw [Bool.eq_iff_iff, pgOk_iff, pgOk_iff, List.length_append, List.length_cons, ejP_right]
  constructor <;> rintro ⟨g1, g2, g3, g4⟩ <;> exact ⟨by omega, by omega, by omega, by omega⟩
theorem bestTo_eq {l l' : List LN} {f f' : Nat} {h : Int} {F : List (Option WY)} {k lo : Nat} (hb : ∀ i, byWay l f h F k i = byWay l' f' h F k i) : ∀ n, bestTo l f h F k lo n = bestTo l' f' h F k lo n
  | 0 => rfl
  | n + 1 => by rw [bestTo, bestTo, bestTo_eq hb n, hb]
theorem fnd_left {a b : List LN} {e : LN} (he : e.ej = true) {f : Nat} {h : Int} : ∀ k, f + k ≤ a.length → fnd (a ++ e :: b) f h k = fnd a f h k
  | 0, _ => rfl
  | k + 1, hk => by
    rw [fnd, fnd, fnd_left he k (by omega), bestTo_eq (l' := a) (f' := f) (fun i => ?_)]
    unfold byWay
    rw [pgOk_left he (by omega), price_left he (by omega) (by omega)]
def shW (n : Nat) (w : WY) : WY := ⟨w.ends.map (· + (n : Int)), w.total⟩
theorem cmpL_sh (n : Nat) : ∀ (x y : List Int), cmpL (x.map (· + (n : Int))) (y.map (· + (n : Int))) = cmpL x y
  | [], [] => rfl
  | [], _ :: _ => rfl
  | _ :: _, [] => rfl
  | x :: xs, y :: ys => by
    rw [List.map_cons, List.map_cons, cmpL, cmpL, cmpL_sh n xs ys]
    by_cases h1 : x < y
    · rw [if_pos h1, if_pos (by omega)]
    · rw [if_neg h1, if_neg (by omega)]
      by_cases h2 : y < x
      · rw [if_pos h2, if_pos (by omega)]
      · rw [if_neg h2, if_neg (by omega)]
theorem bett_sh (n : Nat) (x y : WY) : bett (shW n x) (shW n y) = bett x y := by
  unfold bett shW
  simp only [cmpL_sh]
theorem offo_sh (n : Nat) (x y : Option WY) : offo (x.map (shW n)) (y.map (shW n)) = (offo x y).map (shW n) := by
  cases y with
  | none => rfl
  | some y =>
    cases x with
    | none => rfl
    | some x =>
      simp only [offo, Option.map_some, offr, bett_sh]
      split <;> rfl
theorem byWay_sh {a b : List LN} {e : LN} {f : Nat} {h : Int} {F : List (Option WY)} {k i : Nat} (hk : 1 ≤ k) :
    byWay (a ++ e :: b) (a.length + 1 + f) h (F.map (Option.map (shW (a.length + 1)))) k i = (byWay b f h F k i).map (shW (a.length + 1)) := by
  unfold byWay
  rw [Nat.add_assoc (a.length + 1) f i, Nat.add_assoc (a.length + 1) f k, pgOk_right, price_right (by omega), List.getElem?_map]
  split
  · cases F[i]? with
    | none => rfl
    | some x =>
      cases x with
      | none => rfl
      | some w =>
        simp only [Option.map_some, Option.join_some, shW, Option.some.injEq, WY.mk.injEq, List.map_append, List.map_cons, List.map_nil, and_true]
        congr 2
        omega
  · rfl
theorem bestTo_sh {a b : List LN} {e : LN} {f : Nat} {h : Int} {F : List (Option WY)} {k lo : Nat} (hk : 1 ≤ k) : ∀ n,
    bestTo (a ++ e :: b) (a.length + 1 + f) h (F.map (Option.map (shW (a.length + 1)))) k lo n = (bestTo b f h F k lo n).map (shW (a.length + 1))
  | 0 => rfl
  | n + 1 => by rw [bestTo, bestTo, bestTo_sh hk n, byWay_sh hk, offo_sh]
theorem fnd_right {a b : List LN} {e : LN} {f : Nat} {h : Int} : ∀ k, fnd (a ++ e :: b) (a.length + 1 + f) h k = (fnd b f h k).map (Option.map (shW (a.length + 1)))
  | 0 => rfl
  | k + 1 => by rw [fnd, fnd, fnd_right k, bestTo_sh (by omega), List.map_append]; rfl
theorem sec_left {a b : List LN} {e : LN} (he : e.ej = true) {f t : Nat} {h : Int} (h1 : f ≤ t) (h2 : t ≤ a.length) : secP (a ++ e :: b) f t h = secP a f t h := by
  unfold secP
  rw [fnd_left he _ (by omega)]
theorem sec_right {a b : List LN} {e : LN} {f t : Nat} {h : Int} : secP (a ++ e :: b) (a.length + 1 + f) (a.length + 1 + t) h = shW (a.length + 1) (secP b f t h) := by
  unfold secP
  rw [show a.length + 1 + t - (a.length + 1 + f) = t - f by omega, fnd_right, List.getElem?_map]
  cases (fnd b f h (t - f))[t - f]? with
  | none => rfl
  | some x => cases x <;> rfl
theorem all_left {a b : List LN} {e : LN} (he : e.ej = true) {h : Int} : ∀ (q f Q : Nat) (acc : WY), f ≤ a.length → a.length + 1 ≤ f + q → (a ++ e :: b).length + 1 ≤ f + Q →
    ∃ Q', (a ++ e :: b).length + 1 ≤ a.length + 1 + Q' ∧ allW (a ++ e :: b) h Q f acc = allW (a ++ e :: b) h Q' (a.length + 1) (allW a h q f acc)
  | 0, f, Q, acc, hf, hq, hQ => by omega
  | q + 1, f, Q, acc, hf, hq, hQ => by
    have hL : (a ++ e :: b).length = a.length + (b.length + 1) := by rw [List.length_append, List.length_cons]
    obtain ⟨Q0, rfl⟩ : ∃ Q0, Q = Q0 + 1 := ⟨Q - 1, by omega⟩
    have hej := ejP_le hf
    have hf2 : f ≤ (a ++ e :: b).length := by omega
    rw [allW, allW, if_pos hf, if_pos hf2, ejP_left he hf, sec_left he hej.1 hej.2]
    rcases Nat.lt_or_ge (ejP a f) a.length with h1 | h1
    · exact all_left he q _ Q0 _ (by omega) (by omega) (by omega)
    · rw [show ejP a f = a.length by omega, allW_end (l := a) (f := a.length + 1) (by omega)]
      exact ⟨Q0, by omega, rfl⟩
theorem all_right {a b : List LN} {e : LN} {h : Int} (X : List Int) (T : Int) : ∀ (q f Q : Nat) (acc : WY), b.length + 1 ≤ f + q → (a ++ e :: b).length + 1 ≤ a.length + 1 + f + Q →
    allW (a ++ e :: b) h Q (a.length + 1 + f) ⟨X ++ (shW (a.length + 1) acc).ends, T + acc.total⟩ = ⟨X ++ (shW (a.length + 1) (allW b h q f acc)).ends, T + (allW b h q f acc).total⟩
  | 0, f, Q, acc, hq, hQ => by
    have hL : (a ++ e :: b).length = a.length + (b.length + 1) := by rw [List.length_append, List.length_cons]
    rw [allW_end (l := a ++ e :: b) (by omega)]; rfl
  | q + 1, f, Q, acc, hq, hQ => by
    have hL : (a ++ e :: b).length = a.length + (b.length + 1) := by rw [List.length_append, List.length_cons]
    by_cases hf : f ≤ b.length
    · obtain ⟨Q0, rfl⟩ : ∃ Q0, Q = Q0 + 1 := ⟨Q - 1, by omega⟩
      have hej := ejP_le hf
      have ih := all_right (a := a) (b := b) (e := e) (h := h) X T q (ejP b f + 1) Q0 ⟨acc.ends ++ (secP b f (ejP b f) h).ends, acc.total + (secP b f (ejP b f) h).total⟩ (by omega) (by omega)
      have hf2 : a.length + 1 + f ≤ (a ++ e :: b).length := by omega
      rw [allW, allW, if_pos hf, if_pos hf2, ejP_right, sec_right, ← ih]
      congr 1
      simp only [shW, List.map_append, List.append_assoc, Int.add_assoc]
    · rw [allW_end (l := b) (by omega), allW_end (l := a ++ e :: b) (by omega)]
theorem best_apart {a b : List LN} {e : LN} (he : e.ej = true) {h : Int} (h3 : 3 ≤ h) (h20 : h ≤ 20) (hn : a.length + b.length ≤ 290) :
    bestP (a ++ e :: b) h = ⟨(bestP a h).ends ++ (bestP b h).ends.map (· + ((a.length + 1 : Nat) : Int)), (bestP a h).total + (bestP b h).total⟩ := by
  have hL : (a ++ e :: b).length = a.length + (b.length + 1) := by rw [List.length_append, List.length_cons]
  unfold bestP
  have k1 : 3 ≤ h ∧ h ≤ 20 ∧ (a ++ e :: b).length ≤ 300 := ⟨h3, h20, by omega⟩
  have k2 : 3 ≤ h ∧ h ≤ 20 ∧ a.length ≤ 300 := ⟨h3, h20, by omega⟩
  have k3 : 3 ≤ h ∧ h ≤ 20 ∧ b.length ≤ 300 := ⟨h3, h20, by omega⟩
  rw [if_pos k1, if_pos k2, if_pos k3]
  obtain ⟨Q', hQ, e1⟩ := all_left (a := a) (b := b) he (h := h) (a.length + 1) 0 ((a ++ e :: b).length + 1) ⟨[], 0⟩ (by omega) (by omega) (by omega)
  rw [e1]
  have := all_right (a := a) (e := e) (b := b) (h := h) (allW a h (a.length + 1) 0 ⟨[], 0⟩).ends (allW a h (a.length + 1) 0 ⟨[], 0⟩).total (b.length + 1) 0 Q' ⟨[], 0⟩ (by omega) (by omega)
  simp only [shW, List.map_nil, List.append_nil, Int.add_zero, Nat.add_zero] at this
  exact this
end Go.Proofs.Ytdnpcplboohdpaa
