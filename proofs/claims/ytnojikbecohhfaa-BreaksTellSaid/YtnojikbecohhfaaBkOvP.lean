/- Breaks in plain Lean: words with spaces between; as many overfull lines as words that are too wide. -/
import Derived.Test.YtnojikbecohhfaaBkLaw3
import Derived.Test.YtnojikbecohhfaaBkWk1
namespace Go.Proofs.Ytnojikbecohhfaa
set_option linter.unusedSimpArgs false
set_option linter.unusedVariables false

def tx : ByteArray := ⟨#[120]⟩
/-- so much comes together of the first words -/
def acc (f : Int → Int) (ws : List Int) : Nat → Int
  | 0 => 0
  | k + 1 => acc f ws k + match ws[k]? with
    | some w => f w
    | none => 0
theorem acc_next {f : Int → Int} {ws : List Int} {k : Nat} {w : Int} (h : ws[k]? = some w) : acc f ws (k + 1) = acc f ws k + f w := by
  rw [acc, h]
theorem acc_nn {f : Int → Int} (hf : ∀ w, 0 ≤ f w) (ws : List Int) : ∀ k, 0 ≤ acc f ws k
  | 0 => Int.le_refl _
  | k + 1 => by
    have ih := acc_nn hf ws k
    rw [acc]
    split
    · rename_i w _
      have := hf w
      omega
    · omega
def idW (w : Int) : Int := w
def exW (wd w : Int) : Int := if wd < w then w - wd else 0
def wdW (wd w : Int) : Int := if wd < w then 1 else 0
theorem exW_nn (wd w : Int) : 0 ≤ exW wd w := by unfold exW; split <;> omega
theorem wdW_nn (wd w : Int) : 0 ≤ wdW wd w := by unfold wdW; split <;> omega
/-- words with spaces between -/
structure Wds (L : List It) (ws : List Int) : Prop where
  len : L.length = 2 * ws.length - 1
  box : ∀ j w, ws[j]? = some w → L[2 * j]? = some (wbox w tx)
  glue : ∀ j, j + 1 < ws.length → L[2 * j + 1]? = some wsp
theorem Wds.nil : Wds [] [] := ⟨rfl, fun j w h => by simp at h, fun j h => absurd h (by simp)⟩
theorem Wds.first (w : Int) : Wds [wbox w tx] [w] := by
  refine ⟨rfl, fun j v h => ?_, fun j h => absurd h (by simp)⟩
  match j, h with
  | 0, h => simp at h; subst h; rfl
  | j + 1, h => simp at h
theorem Wds.more {L : List It} {ws : List Int} (h : Wds L ws) (hn : 0 < ws.length) (w : Int) : Wds (L ++ [wsp] ++ [wbox w tx]) (ws ++ [w]) := by
  have hl := h.len
  refine ⟨by simp [hl]; omega, fun j v hv => ?_, fun j hj => ?_⟩
  · rcases Nat.lt_or_ge j ws.length with e | e
    · rw [List.getElem?_append_left e] at hv
      rw [List.append_assoc, List.getElem?_append_left (by rw [hl]; omega)]
      exact h.box j v hv
    · have he : j = ws.length := by
        have := (List.getElem?_eq_some_iff.1 hv).1
        simp at this; omega
      subst he
      rw [List.getElem?_append_right (Nat.le_refl _), Nat.sub_self] at hv
      simp at hv
      subst hv
      rw [List.getElem?_append_right (by simp [hl]; omega)]
      simp only [List.length_append, List.length_cons, List.length_nil, hl]
      rw [show 2 * ws.length - (2 * ws.length - 1 + (0 + 1)) = 0 from by omega]; rfl
  · simp only [List.length_append, List.length_cons, List.length_nil] at hj
    rcases Nat.lt_or_ge (j + 1) ws.length with e | e
    · rw [List.append_assoc, List.getElem?_append_left (by rw [hl]; omega)]; exact h.glue j e
    · rw [List.append_assoc, List.getElem?_append_right (by rw [hl]; omega), hl]
      rw [show 2 * j + 1 - (2 * ws.length - 1) = 0 from by omega]; rfl
/-! ### where such words may be broken -/
theorem Wds.may {L : List It} {ws : List Int} (h : Wds L ws) {i : Nat} (hi : i < L.length) : mayB L i = decide (i % 2 = 1) := by
  have hl := h.len
  rcases Nat.mod_two_eq_zero_or_one i with e | e
  · obtain ⟨j, rfl⟩ : ∃ j, i = 2 * j := ⟨i / 2, by omega⟩
    have hj : j < ws.length := by omega
    have := h.box j _ (List.getElem?_eq_getElem hj)
    simp [mayB, this, wbox, e]
  · obtain ⟨j, rfl⟩ : ∃ j, i = 2 * j + 1 := ⟨i / 2, by omega⟩
    have h1 := h.glue j (by omega)
    have h2 := h.box j _ (List.getElem?_eq_getElem (show j < ws.length by omega))
    simp [mayB, h1, h2, e, wsp, wbox, pl]
theorem Wds.brksTo_ {L : List It} {ws : List Int} (h : Wds L ws) : ∀ m, m ≤ L.length → brksTo L m = (List.range (m / 2)).map (fun j => 2 * j + 1)
  | 0, _ => rfl
  | m + 1, hm => by
    rw [brksTo_next, Wds.brksTo_ h m (by omega), h.may (show m < L.length by omega)]
    rcases Nat.mod_two_eq_zero_or_one m with e | e
    · rw [if_neg (by simp [e]), List.append_nil, show (m + 1) / 2 = m / 2 from by omega]
    · rw [if_pos (by simp [e]), show (m + 1) / 2 = m / 2 + 1 from by omega, List.range_succ, List.map_append]
      simp only [List.map_cons, List.map_nil]
      rw [show 2 * (m / 2) + 1 = m from by omega]
theorem Wds.brks_ {L : List It} {ws : List Int} (h : Wds L ws) (hn : 0 < ws.length) : brks L = (List.range ws.length).map (fun j => 2 * j + 1) := by
  have hl := h.len
  rw [brks, h.brksTo_ _ (Nat.le_refl _)]
  obtain ⟨q, hq⟩ : ∃ q, ws.length = q + 1 := ⟨ws.length - 1, by omega⟩
  rw [hq] at hl ⊢
  rw [hl, show (2 * (q + 1) - 1) / 2 = q from by omega, List.range_succ, List.map_append]
  simp only [List.map_cons, List.map_nil]
  rw [show 2 * (q + 1) - 1 = 2 * q + 1 from by omega]
theorem Wds.plcLen {L : List It} {ws : List Int} (h : Wds L ws) (hn : 0 < ws.length) : (plc L).length = ws.length + 1 := by
  rw [plc_len, h.brks_ hn]; simp
theorem Wds.at_ {L : List It} {ws : List Int} (h : Wds L ws) (hn : 0 < ws.length) {k : Nat} (hk : k ≤ ws.length) : plcAt L k = 2 * (k : Int) - 1 := by
  cases k with
  | zero => rfl
  | succ k =>
    unfold plcAt plc
    rw [List.getElem?_cons_succ, List.getElem?_map, h.brks_ hn, List.getElem?_map, List.getElem?_range (by omega)]
    simp only [Option.map_some, Option.getD_some]
    omega
theorem Wds.fst_ {L : List It} {ws : List Int} (h : Wds L ws) {i : Nat} (hi : i < ws.length) : fst L (2 * (i : Int) - 1) = 2 * i := by
  have hl := h.len
  have hb := h.box i _ (List.getElem?_eq_getElem hi)
  cases i with
  | zero => exact (fst_neg L).trans (nb_box hb rfl)
  | succ j =>
    have e : 2 * ((j + 1 : Nat) : Int) - 1 = ((2 * j + 1 : Nat) : Int) := by omega
    rw [e, fst_nat L (by omega)]
    exact nb_box (i := 2 * (j + 1)) hb rfl
theorem wide_box {w : Int} (h0 : 1 ≤ w) (h1 : w ≤ 256) : (wbox w tx).wide = w := by
  show (if (1 : Int) = 3 then 0 else pl w) = w
  rw [if_neg (by decide)]
  unfold pl
  rw [if_neg (by omega)]
/-- a line's sums -/
theorem Wds.sums {L : List It} {ws : List Int} (h : Wds L ws) (hw : ∀ w ∈ ws, 1 ≤ w ∧ w ≤ 256) {i : Nat} : ∀ g, i + g < ws.length →
    Sm.of (seg L (2 * i) (2 * (i + g) + 1)) = ⟨acc idW ws (i + g + 1) - acc idW ws i + 4 * g, 2 * g, g⟩
  | 0, hg => by
    simp only [Nat.add_zero] at hg ⊢
    obtain ⟨v, hv⟩ : ∃ v, ws[i]? = some v := ⟨_, List.getElem?_eq_getElem hg⟩
    have hb := h.box _ _ hv
    have hr := hw _ (List.mem_of_getElem? hv)
    rw [seg_next (by omega) hb, seg_nil (by omega), acc_next hv]
    have e0 := wide_box hr.1 hr.2
    have e1 : pl (wbox v tx).y = 0 := rfl
    have e2 : pl (wbox v tx).z = 0 := rfl
    simp only [Sm.of, sumOf, List.nil_append, e0, e1, e2, idW]
    congr 1
    omega
  | g + 1, hg => by
    have ih := Wds.sums h hw (i := i) g (by omega)
    have hv := List.getElem?_eq_getElem (show i + g + 1 < ws.length by omega)
    have hb := h.box _ _ hv
    have hs := h.glue (i + g) (by omega)
    have hr := hw _ (List.getElem_mem (show i + g + 1 < ws.length by omega))
    rw [show 2 * (i + (g + 1)) + 1 = 2 * (i + g) + 1 + 1 + 1 from by omega, seg_next (by omega) (by rw [show 2 * (i + g) + 1 + 1 = 2 * (i + g + 1) from by omega]; exact hb), seg_next (by omega) hs]
    rw [show i + (g + 1) + 1 = i + g + 1 + 1 from by omega, acc_next hv]
    simp only [Sm.of] at ih ⊢
    injection ih with h1 h2 h3
    have e1 : pl (wbox ws[i + g + 1] tx).y = 0 := rfl
    have e2 : pl (wbox ws[i + g + 1] tx).z = 0 := rfl
    have e3 : pl wsp.y = 2 := rfl
    have e4 : pl wsp.z = 1 := rfl
    have e5 : wsp.wide = 4 := rfl
    simp only [sumOf_append, sumOf, h1, h2, h3, e1, e2, e3, e4, e5, wide_box hr.1 hr.2, idW]
    congr 1 <;> omega
theorem Wds.line_ {L : List It} {ws : List Int} (h : Wds L ws) (hw : ∀ w ∈ ws, 1 ≤ w ∧ w ≤ 256) {i g : Nat} (hg : i + g < ws.length) :
    line L (2 * (i : Int) - 1) (2 * ((i + g + 1 : Nat) : Int) - 1) = ⟨acc idW ws (i + g + 1) - acc idW ws i + 4 * g, 2 * g, g⟩ := by
  have hl := h.len
  unfold line
  have e : 2 * ((i + g + 1 : Nat) : Int) - 1 = ((2 * (i + g) + 1 : Nat) : Int) := by omega
  rw [h.fst_ (by omega), e, toAt_nat (by omega), lineAt_of, h.sums hw g hg]
  rcases Nat.lt_or_ge (i + g + 1) ws.length with e2 | e2
  · exact penW_no (h.glue (i + g) e2) (by decide)
  · rw [show 2 * (i + g) + 1 = L.length from by omega]; exact penW_end L
/-! ### what a line has -/
theorem seg_words {ws : List Int} (hw : ∀ w ∈ ws, 1 ≤ w ∧ w ≤ 256) {wd : Int} (hwd : 40 ≤ wd) {i : Nat} : ∀ g, i + g < ws.length →
    let S := acc idW ws (i + g + 1) - acc idW ws i
    let E := acc (exW wd) ws (i + g + 1) - acc (exW wd) ws i
    let C := acc (wdW wd) ws (i + g + 1) - acc (wdW wd) ws i
    (E ≤ 216 * (g + 1) ∧ S ≤ 256 * (g + 1) ∧ C ≤ g + 1 ∧ 1 ≤ S) ∧ ((C = 0 ∧ E = 0) ∨ (1 ≤ C ∧ C ≤ E ∧ E + wd ≤ S))
  | 0, hg => by
    have hv := List.getElem?_eq_getElem hg
    have hr := hw _ (List.getElem_mem hg)
    simp only [Nat.add_zero] at hv hr ⊢
    rw [acc_next hv, acc_next hv, acc_next hv]
    unfold exW wdW idW
    split <;> omega
  | g + 1, hg => by
    have ih := seg_words hw hwd (i := i) g (by omega)
    have hv := List.getElem?_eq_getElem (show i + g + 1 < ws.length by omega)
    have hr := hw _ (List.getElem_mem (show i + g + 1 < ws.length by omega))
    simp only at ih ⊢
    rw [show i + (g + 1) + 1 = i + g + 1 + 1 from by omega, acc_next hv, acc_next hv, acc_next hv]
    unfold idW at ih ⊢
    have e : exW wd ws[i + g + 1] = (if wd < ws[i + g + 1] then ws[i + g + 1] - wd else 0) := rfl
    have e2 : wdW wd ws[i + g + 1] = (if wd < ws[i + g + 1] then 1 else 0) := rfl
    rw [e, e2]
    split <;> omega
theorem dem_small {b c : Int} {t : Bool} : 0 ≤ dem b c t ∧ dem b c t ≤ 300000000 := by
  have hb := cutZ_bd b 0 10000 (by omega)
  have hc := cutZ_bd c 0 10000 (by omega)
  unfold dem
  generalize cutZ b 0 10000 = B at *
  generalize cutZ c 0 10000 = C at *
  have b1 := sq_bd (show 0 ≤ 10 + B by omega) (m := 10010) (by omega)
  have b2 := sq_bd hc.1 hc.2
  split <;> omega
/-- one line -/
theorem Wds.one {L : List It} {ws : List Int} (h : Wds L ws) (hw : ∀ w ∈ ws, 1 ≤ w ∧ w ≤ 256) (hn : ws.length ≤ 40) {wd tl : Int} (hwd : 40 ≤ wd) {i k : Nat} (hik : i < k) (hk : k ≤ ws.length) :
    let D := lineD L wd tl (plcAt L i) (plcAt L k)
    let E := acc (exW wd) ws k - acc (exW wd) ws i
    let C := acc (wdW wd) ws k - acc (wdW wd) ws i
    (D.over = true → ∃ v : Int, D.n = 100000000000 * v ∧ 1 ≤ v ∧ E ≤ v ∧ (v = E → C = 1)) ∧ (D.over = false → C = 0 ∧ E = 0 ∧ 0 ≤ D.n ∧ D.n ≤ 300000000) := by
  obtain ⟨g, rfl⟩ : ∃ g, k = i + g + 1 := ⟨k - i - 1, by omega⟩
  have hs := seg_words hw hwd (i := i) g (by omega)
  have hln := h.line_ hw (i := i) (g := g) (by omega)
  have hl := h.len
  rw [h.at_ (by omega) (show i ≤ ws.length by omega), h.at_ (by omega) hk]
  simp only at hs ⊢
  generalize acc idW ws (i + g + 1) - acc idW ws i = S at hs hln
  generalize acc (exW wd) ws (i + g + 1) - acc (exW wd) ws i = E at hs ⊢
  generalize acc (wdW wd) ws (i + g + 1) - acc (wdW wd) ws i = C at hs ⊢
  have hbad : badL L wd (2 * (i : Int) - 1) (2 * ((i + g + 1 : Nat) : Int) - 1) = if 2 * ((i + g + 1 : Nat) : Int) - 1 = L.length ∧ 0 ≤ wd - (S + 4 * g) then (0, true) else badOf (wd - (S + 4 * g)) (2 * g) g := by unfold badL; rw [hln]
  unfold lineD
  rw [hln]
  simp only
  cases hbd : (badL L wd (2 * (i : Int) - 1) (2 * ((i + g + 1 : Nat) : Int) - 1)).2 with
  | true =>
    rw [if_pos rfl]
    refine ⟨fun h => (by cases h), fun _ => ?_⟩
    have hC : C = 0 := by
      rw [hbad] at hbd
      split at hbd
      · rename_i hd
        omega
      · have := badOf_yes hbd
        omega
    exact ⟨hC, by omega, dem_small.1, dem_small.2⟩
  | false =>
    rw [if_neg (by simp)]
    refine ⟨fun _ => ?_, fun h => (by cases h)⟩
    rw [hbad] at hbd
    split at hbd
    · cases hbd
    · have hno := badOf_no hbd
      refine ⟨_, rfl, ?_, ?_, ?_⟩
      · omega
      · omega
      · omega
theorem Wds.path {L : List It} {ws : List Int} (h : Wds L ws) (hw : ∀ w ∈ ws, 1 ≤ w ∧ w ≤ 256) (h0 : 0 < ws.length) (hn : ws.length ≤ 40) {wd tl : Int} (hwd : 40 ≤ wd) {all : Bool} {k : Nat} {y : WY} (hp : PathTo L wd tl all k y) :
    (∃ N r : Int, y.total = 100000000000 * N + r ∧ 0 ≤ r ∧ r ≤ 300000000 * (k : Int) ∧ acc (exW wd) ws k ≤ N ∧ (N = acc (exW wd) ws k → y.over = acc (wdW wd) ws k)) ∧ (all = false → acc (wdW wd) ws k = 0) := by
  induction hp with
  | nil => exact ⟨⟨0, 0, rfl, by omega, by omega, Int.le_refl _, fun _ => rfl⟩, fun _ => rfl⟩
  | @step i k y hp hik hk hb hm ih =>
    obtain ⟨⟨N, r, h1, h2, h3, h4, h5⟩, h6⟩ := ih
    rw [h.plcLen h0] at hk
    have ho := h.one hw hn hwd (tl := tl) hik (by omega)
    simp only at ho
    obtain ⟨o1, o2⟩ := ho
    unfold withW
    simp only
    cases hov : (lineD L wd tl (plcAt L i) (plcAt L k)).over with
    | true =>
      obtain ⟨v, v1, v2, v3, v4⟩ := o1 hov
      refine ⟨⟨N + v, r, by omega, h2, by omega, by omega, fun he => ?_⟩, fun ha => ?_⟩
      · have e1 : N = acc (exW wd) ws i := by omega
        have e2 := v4 (by omega)
        have e3 := h5 e1
        rw [if_pos rfl]
        omega
      · rw [ha, Bool.or_false, (lineD_over hov).2.2] at hm
        cases hm
    | false =>
      obtain ⟨w1, w2, w3, w4⟩ := o2 hov
      refine ⟨⟨N, r + (lineD L wd tl (plcAt L i) (plcAt L k)).n, by omega, by omega, by omega, by omega, fun he => ?_⟩, fun ha => ?_⟩
      · have e3 := h5 (by omega)
        rw [if_neg (by simp)]
        omega
      · have := h6 ha; omega
/-- each word by itself -/
theorem Wds.alone {L : List It} {ws : List Int} (h : Wds L ws) (hw : ∀ w ∈ ws, 1 ≤ w ∧ w ≤ 256) (h0 : 0 < ws.length) (hn : ws.length ≤ 40) {wd tl : Int} (hwd : 40 ≤ wd) (htl : 10000 ≤ tl) {all : Bool} : ∀ k, k ≤ ws.length → (all = true ∨ acc (wdW wd) ws k = 0) →
    ∃ y, PathTo L wd tl all k y ∧ y.total ≤ 100000000000 * acc (exW wd) ws k + 300000000 * (k : Int)
  | 0, _, _ => ⟨wy0, .nil, by simp [wy0, acc]⟩
  | k + 1, hk, ha => by
    have hv := List.getElem?_eq_getElem (show k < ws.length by omega)
    have hr := hw _ (List.getElem_mem (show k < ws.length by omega))
    have ecw := acc_next (f := wdW wd) hv
    have eex := acc_next (f := exW wd) hv
    have hC : 0 ≤ acc (wdW wd) ws k := acc_nn (wdW_nn wd) ws k
    have hw0 : 0 ≤ wdW wd ws[k] := by unfold wdW; split <;> omega
    obtain ⟨y, hp, hy⟩ := Wds.alone h hw h0 hn hwd htl (all := all) k (by omega) (by rcases ha with ha | ha; exact .inl ha; exact .inr (by omega))
    have hlen := h.plcLen h0
    have hbx : bx L (plcAt L k) (plcAt L (k + 1)) = true := by
      unfold bx
      rw [h.at_ h0 (show k ≤ _ by omega), h.at_ h0 hk, h.fst_ (by omega)]
      exact decide_eq_true (by omega)
    have ho := h.one hw hn hwd (tl := tl) (show k < k + 1 by omega) hk
    simp only at ho
    obtain ⟨o1, o2⟩ := ho
    have hln := h.line_ hw (i := k) (g := 0) (by omega)
    rw [Nat.add_zero, acc_next (f := idW) hv] at hln
    have hS : acc idW ws k + idW ws[k] - acc idW ws k + 4 * ((0 : Nat) : Int) = ws[k] := by unfold idW; omega
    rw [hS] at hln
    have hD : ((lineD L wd tl (plcAt L k) (plcAt L (k + 1))).may || all) = true ∧ (lineD L wd tl (plcAt L k) (plcAt L (k + 1))).n ≤ 100000000000 * exW wd ws[k] + 300000000 := by
      cases hov : (lineD L wd tl (plcAt L k) (plcAt L (k + 1))).over with
      | true =>
        have hwide : wd < ws[k] := by
          rcases Int.lt_or_le wd ws[k] with e | e
          · exact e
          · have hbad : (badL L wd (plcAt L k) (plcAt L (k + 1))).2 = true := by
              unfold badL
              rw [h.at_ h0 (show k ≤ _ by omega), h.at_ h0 hk, hln]
              simp only
              split
              · rfl
              · have hd := cutZ_bd (wd - ws[k]) (-10000) 10000 (by omega)
                have hd2 : 0 ≤ cutZ (wd - ws[k]) (-10000) 10000 := by unfold cutZ; omega
                exact (badC_room hd2 (by decide)).1
            unfold lineD at hov
            rw [if_pos hbad] at hov
            cases hov
        have ha1 : all = true := by
          rcases ha with ha | ha
          · exact ha
          · rw [ecw] at ha
            have : wdW wd ws[k] = 1 := if_pos hwide
            omega
        refine ⟨by rw [ha1, Bool.or_true], ?_⟩
        unfold lineD at hov ⊢
        split at hov
        · cases hov
        · rename_i hb
          rw [if_neg hb, h.at_ h0 (show k ≤ _ by omega), h.at_ h0 hk, hln]
          have : exW wd ws[k] = ws[k] - wd := if_pos hwide
          rw [this]
          simp only
          omega
      | false =>
        obtain ⟨c1, c2, c3, c4⟩ := o2 hov
        have hnw : ¬ wd < ws[k] := by
          intro hlt
          have : wdW wd ws[k] = 1 := if_pos hlt
          omega
        refine ⟨?_, by have : exW wd ws[k] = 0 := if_neg hnw; omega⟩
        have hmay : (lineD L wd tl (plcAt L k) (plcAt L (k + 1))).may = true := by
          unfold lineD at hov ⊢
          split at hov
          · rename_i hb
            rw [if_pos hb]
            simp only
            refine decide_eq_true ?_
            unfold badL
            rw [h.at_ h0 (show k ≤ _ by omega), h.at_ h0 hk, hln]
            simp only
            split
            · simp only; omega
            · have hd2 : 0 ≤ cutZ (wd - ws[k]) (-10000) 10000 := by unfold cutZ; omega
              have := (badC_room (z := cutZ ((0 : Nat) : Int) 0 10000) hd2 (show 0 ≤ cutZ (2 * ((0 : Nat) : Int)) 0 10000 by decide)).2.2
              exact Int.le_trans this htl
          · cases hov
        rw [hmay]; rfl
    refine ⟨_, .step hp (show k < k + 1 by omega) (by omega) hbx hD.1, ?_⟩
    unfold withW
    simp only
    rw [eex]
    have := hD.2
    omega
/-- as many overfull lines as words that are too wide; so far too wide as they are -/
theorem Wds.over {L : List It} {ws : List Int} (h : Wds L ws) (hw : ∀ w ∈ ws, 1 ≤ w ∧ w ≤ 256) (h0 : 0 < ws.length) (hn : ws.length ≤ 40) {wd tl : Int} (hwd : 40 ≤ wd) (htl : 10000 ≤ tl) :
    walkP L wd tl (bestP L wd tl).ends = some (bestP L wd tl, decide (acc (wdW wd) ws ws.length = 0)) ∧ (bestP L wd tl).over = acc (wdW wd) ws ws.length ∧ (bestP L wd tl).total / 100000000000 = acc (exW wd) ws ws.length ∧ 0 ≤ (bestP L wd tl).total := by
  have hl := h.len
  have hn6 : L.length ≤ 600 := by omega
  have hbn : (brks L).length = ws.length := by rw [h.brks_ h0]; simp
  have hb : bx L (-1) L.length = true := by
    unfold bx
    have := h.fst_ (i := 0) h0
    rw [show 2 * ((0 : Nat) : Int) - 1 = -1 from rfl] at this
    rw [this]
    exact decide_eq_true (by omega)
  obtain ⟨mb, hwk, hmb⟩ := best_walkP (wd := wd) (tl := tl) hn6 hb
  have key : ∀ {all x y}, PathTo L wd tl all (brks L).length x → leW x y → y.total ≤ 100000000000 * acc (exW wd) ws ws.length + 300000000 * (ws.length : Int) →
      x.over = acc (wdW wd) ws ws.length ∧ x.total / 100000000000 = acc (exW wd) ws ws.length ∧ 0 ≤ acc (exW wd) ws ws.length := by
    intro all x y hx hle hy
    rw [hbn] at hx
    obtain ⟨⟨N, r, h1, h2, h3, h4, h5⟩, -⟩ := h.path hw h0 hn hwd hx
    have hle' : x.total ≤ y.total := by rcases hle with e | ⟨e, -⟩ <;> omega
    have hN : N = acc (exW wd) ws ws.length := by omega
    refine ⟨h5 hN, by omega, ?_⟩
    exact acc_nn (exW_nn wd) ws _
  have fin : ∀ {all}, srch L wd tl all = some (bestP L wd tl) → (all = true ∨ acc (wdW wd) ws ws.length = 0) → mb = decide (acc (wdW wd) ws ws.length = 0) →
      walkP L wd tl (bestP L wd tl).ends = some (bestP L wd tl, decide (acc (wdW wd) ws ws.length = 0)) ∧ (bestP L wd tl).over = acc (wdW wd) ws ws.length ∧ (bestP L wd tl).total / 100000000000 = acc (exW wd) ws ws.length ∧ 0 ≤ (bestP L wd tl).total := by
    intro all hs ha hm
    obtain ⟨y, hp, hy⟩ := h.alone hw h0 hn hwd htl (all := all) ws.length (Nat.le_refl _) ha
    rw [← hbn] at hp
    obtain ⟨x, hx, hle⟩ := srch_least hp
    rw [hs] at hx
    injection hx with hx
    rw [← hx] at hle
    obtain ⟨k1, k2, k3⟩ := key (srch_path hs) hle hy
    refine ⟨by rw [hwk, hm], k1, k2, ?_⟩
    omega
  by_cases hc : acc (wdW wd) ws ws.length = 0
  · obtain ⟨y, hp, hy⟩ := h.alone hw h0 hn hwd htl (all := false) ws.length (Nat.le_refl _) (.inr hc)
    rw [← hbn] at hp
    obtain ⟨x, hx, -⟩ := srch_least hp
    have hbe := best_of_srch hn6 hb hx
    refine fin (all := false) (by rw [hx, hbe]) (.inr hc) ?_
    rw [decide_eq_true hc]
    exact hmb.2 (by rw [hx]; rfl)
  · have hno : srch L wd tl false = none := by
      cases hs : srch L wd tl false with
      | none => rfl
      | some x =>
        have := srch_path hs
        rw [hbn] at this
        exact absurd ((h.path hw h0 hn hwd this).2 rfl) hc
    obtain ⟨all, h1, -, -⟩ := best_path (wd := wd) (tl := tl) hn6 hb
    have ha : all = true := by
      cases all with
      | true => rfl
      | false => rw [hno] at h1; cases h1
    refine fin (all := all) h1 (.inl ha) ?_
    rw [decide_eq_false hc]
    cases mb with
    | false => rfl
    | true => have := hmb.1 rfl; rw [hno] at this; cases this
end Go.Proofs.Ytnojikbecohhfaa
