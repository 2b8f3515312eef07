/- TreeTurns in plain Lean: with one digest another one the root is another one, unless two nodes that differ have the same digest. -/
import Derived.Test.YtcnbonmpocddmaaTrArg
namespace Go.Proofs.Ytcnbonmpocddmaa
set_option linter.unusedSimpArgs false
set_option linter.unusedVariables false
open Go.RowKit Go.Sort

theorem nodeB_inj {lv : Nat} {p q : List (List UInt8)} (hlv : lv ≤ 9) (hp : p.length ≤ 3) (hpw : ∀ x ∈ p, x.length = 32) (hq : q.length ≤ 3) (hqw : ∀ x ∈ q, x.length = 32) (h : nodeB lv p = nodeB lv q) : p = q := by
  have h1 := (node_dec hlv hp hpw).2.2.1
  have h2 := (node_dec hlv hq hqw).2.2.1
  rw [← h1, ← h2, h]
theorem nodesT_inj {lv : Nat} {l m : List (List UInt8)} (hlv : lv ≤ 9) (hl : ∀ x ∈ l, x.length = 32) (hm : ∀ x ∈ m, x.length = 32) (hn : l.length = m.length) (h : nodesT lv l = nodesT lv m) : l = m := by
  unfold nodesT at h
  have : ∀ (a b : List (List (List UInt8))), (∀ p ∈ a, p.length ≤ 3 ∧ ∀ x ∈ p, x ∈ l) → (∀ p ∈ b, p.length ≤ 3 ∧ ∀ x ∈ p, x ∈ m) → a.map (nodeB lv) = b.map (nodeB lv) → a = b := by
    intro a
    induction a with
    | nil => intro b _ _ e; cases b with
      | nil => rfl
      | cons _ _ => cases e
    | cons p a ih =>
      intro b ha hb e
      cases b with
      | nil => cases e
      | cons q b =>
        rw [List.map_cons, List.map_cons, List.cons.injEq] at e
        have h1 := ha p List.mem_cons_self
        have h2 := hb q List.mem_cons_self
        rw [nodeB_inj hlv h1.1 (fun x hx => hl x (h1.2 x hx)) h2.1 (fun x hx => hm x (h2.2 x hx)) e.1, ih b (fun p hp => ha p (List.mem_cons_of_mem _ hp)) (fun p hp => hb p (List.mem_cons_of_mem _ hp)) e.2]
  have hp := this _ _ (parts3_small _ l) (parts3_small _ m) h
  have f1 := parts3_flat (l.length + 1) l (by omega)
  have f2 := parts3_flat (m.length + 1) m (by omega)
  rw [← f1, ← f2, hp]
theorem levelsT_ne {q lv : Nat} (l : List (List UInt8)) (hq : 1 ≤ q) : (levelsT nK q lv l).flatten ≠ [] := by
  match q, hq with
  | q + 1, _ =>
    have hn : 0 < (nodesT lv l).length := by rw [nodesT_len]; split <;> omega
    have hne : nodesT lv l ≠ [] := List.ne_nil_of_length_pos hn
    rw [levelsT]
    split
    · simpa using hne
    · simp [hne]
theorem turn_levels : ∀ (q lv : Nat) (l m : List (List UInt8)), lv + q ≤ 9 → (∀ x ∈ l, x.length = 32) → (∀ x ∈ m, x.length = 32) → l.length = m.length → l.length ≤ 1000 → lvN l.length ≤ q →
    (∀ y ∈ (levelsT nK q lv l).flatten, ∀ z ∈ (levelsT nK q lv m).flatten, nK y = nK z → y = z) → ∀ x x', (levelsT nK q lv l).flatten.getLast? = some x → (levelsT nK q lv m).flatten.getLast? = some x' → nK x = nK x' → nodesT lv l = nodesT lv m
  | 0, lv, l, m, _, _, _, _, _, h, _, _, _, _, _, _ => by
    have : 1 ≤ lvN l.length := by unfold lvN; (repeat' split) <;> omega
    omega
  | q + 1, lv, l, m, hq, hl, hm, hn, hc, h, hinj, x, x', hx, hx', he => by
    have hnn : (nodesT lv l).length = (nodesT lv m).length := by rw [nodesT_len, nodesT_len, hn]
    rw [levelsT] at hx hx' hinj
    rw [levelsT] at hinj
    by_cases h1 : (nodesT lv l).length = 1
    · rw [if_pos h1] at hx hinj
      rw [if_pos (by omega)] at hx' hinj
      obtain ⟨y, hy⟩ := List.length_eq_one_iff.1 h1
      obtain ⟨z, hz⟩ := List.length_eq_one_iff.1 (show (nodesT lv m).length = 1 by omega)
      rw [hy] at hx hinj ⊢
      rw [hz] at hx' hinj ⊢
      simp at hx hx'
      rw [hinj y (by simp) z (by simp) (by rw [hx, hx', he])]
    · rw [if_neg h1] at hx hinj
      rw [if_neg (by omega)] at hx' hinj
      have hnl := nodesT_len lv l
      have h3 : 3 < l.length := by
        rw [hnl] at h1
        split at h1 <;> omega
      have hn2 : (nodesT lv l).length = (l.length + 2) / 3 := by rw [hnl, if_neg (by omega)]
      have hs := lvN_step h3 hc
      have h1' : 1 ≤ lvN ((l.length + 2) / 3) := by unfold lvN; (repeat' split) <;> omega
      have ne1 := levelsT_ne (q := q) (lv := lv + 1) ((nodesT lv l).map nK) (by omega)
      have ne2 := levelsT_ne (q := q) (lv := lv + 1) ((nodesT lv m).map nK) (by omega)
      rw [List.flatten_cons, List.getLast?_append] at hx hx'
      have hw1 : ∀ x ∈ (nodesT lv l).map nK, x.length = 32 := fun x hx => by obtain ⟨y, -, rfl⟩ := List.mem_map.1 hx; exact nK_len y
      have hw2 : ∀ x ∈ (nodesT lv m).map nK, x.length = 32 := fun x hx => by obtain ⟨y, -, rfl⟩ := List.mem_map.1 hx; exact nK_len y
      have e1 : (levelsT nK q (lv + 1) ((nodesT lv l).map nK)).flatten.getLast? = some x := by
        cases hg : (levelsT nK q (lv + 1) ((nodesT lv l).map nK)).flatten.getLast? with
        | none => exact absurd (List.getLast?_eq_none_iff.1 hg) ne1
        | some y => rw [hg] at hx; simpa using hx
      have e2 : (levelsT nK q (lv + 1) ((nodesT lv m).map nK)).flatten.getLast? = some x' := by
        cases hg : (levelsT nK q (lv + 1) ((nodesT lv m).map nK)).flatten.getLast? with
        | none => exact absurd (List.getLast?_eq_none_iff.1 hg) ne2
        | some y => rw [hg] at hx'; simpa using hx'
      have ih := turn_levels q (lv + 1) _ _ (by omega) hw1 hw2 (by rw [List.length_map, List.length_map, hnn]) (by rw [List.length_map, hn2]; omega) (by rw [List.length_map, hn2]; omega)
        (fun y hy z hz => hinj y (by rw [List.flatten_cons]; exact List.mem_append_right _ hy) z (by rw [List.flatten_cons]; exact List.mem_append_right _ hz)) x x' e1 e2 he
      have hmap := nodesT_inj (by omega) hw1 hw2 (by rw [List.length_map, List.length_map, hnn]) ih
      apply List.ext_getElem hnn
      intro i hi1 hi2
      have hk : nK (nodesT lv l)[i] = nK (nodesT lv m)[i] := by
        have : ((nodesT lv l).map nK)[i]? = ((nodesT lv m).map nK)[i]? := by rw [hmap]
        rw [List.getElem?_map, List.getElem?_map, List.getElem?_eq_getElem hi1, List.getElem?_eq_getElem hi2] at this
        simpa using this
      exact hinj _ (by rw [List.flatten_cons]; exact List.mem_append_left _ (List.getElem_mem hi1)) _ (by rw [List.flatten_cons]; exact List.mem_append_left _ (List.getElem_mem hi2)) hk
theorem allN_ne {l : List (List UInt8)} (h : l.length ≤ 1000) : allN l ≠ [] := by unfold allN; rw [if_pos h]; exact levelsT_ne l (by omega)
theorem turn_root {l m : List (List UInt8)} (hl : ∀ x ∈ l, x.length = 32) (hm : ∀ x ∈ m, x.length = 32) (hn : l.length = m.length) (hc : l.length ≤ 1000) (hne : l ≠ m) (hinj : ∀ y ∈ allN l, ∀ z ∈ allN m, nK y = nK z → y = z) : rootT l ≠ rootT m := by
  intro he
  apply hne
  have n1 := allN_ne hc
  have n2 := allN_ne (l := m) (by omega)
  unfold rootT at he
  cases h1 : (allN l).getLast? with
  | none => exact absurd (List.getLast?_eq_none_iff.1 h1) n1
  | some x =>
    cases h2 : (allN m).getLast? with
    | none => exact absurd (List.getLast?_eq_none_iff.1 h2) n2
    | some x' =>
      rw [h1, h2] at he
      unfold allN at h1 h2 hinj
      rw [if_pos hc] at h1 hinj
      rw [if_pos (show m.length ≤ 1000 by omega)] at h2 hinj
      exact nodesT_inj (by omega) hl hm hn (turn_levels 7 0 l m (by omega) hl hm hn hc (by unfold lvN; (repeat' split) <;> omega) hinj x x' h1 h2 he)
theorem levelsT_lens : ∀ (q lv : Nat) (l m : List (List UInt8)), l.length = m.length → (levelsT nK q lv l).flatten.length = (levelsT nK q lv m).flatten.length
  | 0, _, _, _, _ => rfl
  | q + 1, lv, l, m, h => by
    have hnn : (nodesT lv l).length = (nodesT lv m).length := by rw [nodesT_len, nodesT_len, h]
    rw [levelsT, levelsT]
    by_cases h1 : (nodesT lv l).length = 1
    · rw [if_pos h1, if_pos (by omega)]; simp [hnn]
    · rw [if_neg h1, if_neg (by omega), List.flatten_cons, List.flatten_cons, List.length_append, List.length_append, levelsT_lens q (lv + 1) ((nodesT lv l).map nK) ((nodesT lv m).map nK) (by rw [List.length_map, List.length_map, hnn]), hnn]
theorem allN_lens {l m : List (List UInt8)} (h : l.length = m.length) : (allN l).length = (allN m).length := by
  unfold allN
  rw [h]
  split
  · exact levelsT_lens _ _ _ _ h
  · rfl
/-! ### one byte of one digest is another one -/
def turnD (l : List (List UInt8)) (i j : Nat) (v : UInt8) : List (List UInt8) := l.set i ((l[i]?.getD []).set j v)
theorem dgs_set : ∀ (l : List (List UInt8)) (i j : Nat) (v : UInt8), (∀ x ∈ l, x.length = 32) → i < l.length → j < 32 → dgs (turnD l i j v) = (dgs l).set (i * 32 + j) (bv v)
  | [], i, j, v, _, h, _ => by simp at h
  | x :: l, 0, j, v, hw, _, hj => by
    have hx : (bvs x).length = 32 := by rw [bvs_len]; exact hw x List.mem_cons_self
    show bvs (x.set j v) ++ dgs l = (bvs x ++ dgs l).set (0 * 32 + j) (bv v)
    rw [Nat.zero_mul, Nat.zero_add, List.set_append, if_pos (by omega)]
    simp [bvs, List.map_set]
  | x :: l, i + 1, j, v, hw, h, hj => by
    have hx : (bvs x).length = 32 := by rw [bvs_len]; exact hw x List.mem_cons_self
    have ih := dgs_set l i j v (fun y hy => hw y (List.mem_cons_of_mem _ hy)) (by simpa using h) hj
    show bvs x ++ dgs (turnD l i j v) = (bvs x ++ dgs l).set ((i + 1) * 32 + j) (bv v)
    rw [ih, List.set_append, if_neg (by omega), hx, show (i + 1) * 32 + j - 32 = i * 32 + j from by omega]
theorem turnD_wide {l : List (List UInt8)} (hw : ∀ x ∈ l, x.length = 32) {i j : Nat} {v : UInt8} (hi : i < l.length) : ∀ x ∈ turnD l i j v, x.length = 32 := by
  intro x hx
  unfold turnD at hx
  rcases List.mem_or_eq_of_mem_set hx with h | rfl
  · exact hw x h
  · rw [List.length_set, List.getElem?_eq_getElem hi]; exact hw _ (List.getElem_mem hi)
theorem turnD_len (l : List (List UInt8)) (i j : Nat) (v : UInt8) : (turnD l i j v).length = l.length := by unfold turnD; rw [List.length_set]
theorem turnD_ne {l : List (List UInt8)} (hw : ∀ x ∈ l, x.length = 32) {i j : Nat} {v : UInt8} (hi : i < l.length) (hj : j < 32) (hv : ((l[i]?.getD [])[j]?.getD 0) ≠ v) : l ≠ turnD l i j v := by
  intro e
  apply hv
  have h1 : l[i]? = (turnD l i j v)[i]? := by rw [← e]
  unfold turnD at h1
  rw [List.getElem?_set_self hi, List.getElem?_eq_getElem hi] at h1
  rw [List.getElem?_eq_getElem hi]
  simp only [Option.getD_some, Option.some.injEq] at h1 ⊢
  have hl := hw _ (List.getElem_mem hi)
  rw [h1, List.getElem?_set_self (by omega)]
  rfl
theorem own_set {w : World} {base : Nat} {e : TypeId} {sz n c g : Nat} {xs : List Value} (h : w.ownsRow base e sz (.slice (some ⟨g, 0, none⟩) n c) n xs) {k : Nat} (hk : k < xs.length) (v : Value) : (w.setCell ⟨g, k, none⟩ v).ownsRow base e sz (.slice (some ⟨g, 0, none⟩) n c) n (xs.set k v) := by
  refine ⟨by rw [List.length_set]; exact h.1, .inr ?_⟩
  rcases h.2 with ⟨e1, _⟩ | ⟨g', cap, cur, e1, h1, h2, h3, h4, h5, h6⟩
  · cases e1
  · cases e1
    refine ⟨g, c, cur.setIfInBounds k v, rfl, h1, blk_set h2 k v, h3, h4, by simpa using h5, ?_⟩
    rw [Array.toList_setIfInBounds, List.take_set, h6]
end Go.Proofs.Ytcnbonmpocddmaa
