/- Plain laws of lines and breaks; no function of the program is named here. -/
import Derived.Test.YtnojikbecohhfaaMsrPlain
namespace Go.Proofs.Ytnojikbecohhfaa
open Go.RowKit

theorem sum_seg_le {f : It → Int} (hf : ∀ x, 0 ≤ f x ∧ f x ≤ 10000) (l : List It) {fa b c fb : Nat} (h1 : fa ≤ fb) (h2 : b ≤ c) (h3 : b ≤ fb) : sumOf f (seg l fa b) + sumOf f (seg l fb c) ≤ sumOf f (seg l fa c) := by
  have p := fun a b => (sumOf_bd hf (seg l a b)).1
  rcases Nat.lt_or_ge fb c with h | h
  · rw [seg_split (l := l) (show fa ≤ fb from h1) (show fb ≤ c by omega), sumOf_append]
    rcases Nat.lt_or_ge fa b with h4 | h4
    · rw [seg_split (l := l) (show fa ≤ b by omega) h3, sumOf_append]
      have := p b fb; omega
    · rw [seg_nil (l := l) h4]; have := p fa fb; simp only [sumOf]; omega
  · rw [seg_nil (l := l) (show c ≤ fb from h)]
    rcases Nat.lt_or_ge fa b with h4 | h4
    · rw [seg_split (l := l) (show fa ≤ b by omega) h2, sumOf_append]
      have := p b c; simp only [sumOf]; omega
    · rw [seg_nil (l := l) h4]; have := p fa c; simp only [sumOf]; omega
theorem lineAt_of {l : List It} {f t : Nat} (h : penW l t = 0) : lineAt l f t = Sm.of (seg l f t) := by
  unfold lineAt
  split
  · rw [seg_nil (by assumption), Sm.of]; simp [sumOf]
  · rw [h, Int.add_zero]; rfl
theorem penW_no {l : List It} {t : Nat} {x : It} (h : l[t]? = some x) (hx : x.kind ≠ 3) : penW l t = 0 := by simp [penW, h, hx]
theorem fst_nat (l : List It) {a : Nat} (h : a < l.length) : fst l a = nb l (a + 1) := by
  unfold fst startAt; congr 1; omega
theorem fst_neg (l : List It) : fst l (-1) = nb l 0 := by
  unfold fst startAt; congr 1
theorem toAt_nat {n b : Nat} (h : b ≤ n) : toAt n b = b := by unfold toAt; omega

/-- A line that ends later, at no Pen, is no shorter; .. -/
theorem line_grows {l : List It} {a b c : Nat} (h1 : a ≤ b) (h2 : b ≤ c) (h3 : c < l.length) {xb xc : It} (hb : l[b]? = some xb) (hc : l[c]? = some xc) (kb : xb.kind ≠ 3) (kc : xc.kind ≠ 3) :
    (line l a b).w + (line l b c).w ≤ (line l a c).w ∧ (line l a b).y + (line l b c).y ≤ (line l a c).y ∧ (line l a b).z + (line l b c).z ≤ (line l a c).z ∧
      0 ≤ (line l a b).w ∧ 0 ≤ (line l a b).y ∧ 0 ≤ (line l b c).w ∧ 0 ≤ (line l b c).y ∧ 0 ≤ (line l b c).z ∧ line l c b = ⟨0, 0, 0⟩ := by
  unfold line
  rw [fst_nat l (show a < _ by omega), fst_nat l (show b < _ by omega), fst_nat l (show c < _ by omega), toAt_nat (show b ≤ _ by omega), toAt_nat (show c ≤ _ by omega)]
  rw [lineAt_of (penW_no hb kb), lineAt_of (penW_no hc kc), lineAt_of (penW_no hc kc), lineAt_of (penW_no hb kb)]
  have m : nb l (a + 1) ≤ nb l (b + 1) := nb_mono (by omega) (by omega)
  have g := nb_ge l (b + 1)
  have g2 := nb_ge l (c + 1)
  refine ⟨sum_seg_le It.wide_bd l m h2 (by omega), sum_seg_le (fun x => pl_bd x.y) l m h2 (by omega), sum_seg_le (fun x => pl_bd x.z) l m h2 (by omega),
    (sumOf_bd It.wide_bd _).1, (sumOf_bd (fun x => pl_bd x.y) _).1, (sumOf_bd It.wide_bd _).1, (sumOf_bd (fun x => pl_bd x.y) _).1, (sumOf_bd (fun x => pl_bd x.z) _).1, ?_⟩
  rw [seg_nil (by omega)]; rfl

theorem range_split (l : List It) {k n : Nat} (h : k ≤ n) : brksTo l n = brksTo l k ++ ((List.range' k (n - k)).filter (mayB l)) := by
  rw [brksTo, brksTo, ← List.filter_append]
  congr 1
  rw [List.range_eq_range', List.range_eq_range', show n = k + (n - k) from by omega, ← List.range'_append]
  simp
/-- the break that stands at its place -/
theorem brks_at {l : List It} {i : Nat} (hi : i < l.length) (hm : mayB l i = true) : (brks l)[(brksTo l i).length]? = some i := by
  rw [brks, range_split l (show i + 1 ≤ l.length from hi), brksTo_next, if_pos hm]
  simp
theorem brks_len (l : List It) : (brks l).length = (brksTo l l.length).length + 1 := by simp [brks]
theorem brksTo_mono (l : List It) {k n : Nat} (h : k ≤ n) : (brksTo l k).length ≤ (brksTo l n).length := by rw [range_split l h]; simp
theorem brks_last (l : List It) : (brks l)[(brks l).length - 1]? = some l.length := by simp [brks]
theorem brks_le {l : List It} : ∀ k ∈ brks l, k ≤ l.length := by
  intro k hk
  simp only [brks, brksTo, List.mem_append, List.mem_filter, List.mem_range, List.mem_singleton] at hk
  omega

/-! ### words and spaces -/
def spc : It := ⟨2, 4, 2, 1, 0, ByteArray.empty⟩
/-- items as MeasureAdds lays them: i words so far, their widths and spaces come to s -/
structure Laid (L : List It) (i : Nat) (s : Int) : Prop where
  len : L.length = 2 * i - 1
  box : ∀ j, j < i → ∃ x, L[2 * j]? = some x ∧ x.kind = 1
  glue : ∀ j, j + 1 < i → L[2 * j + 1]? = some spc
  w : sumOf It.wide L = s
  y : sumOf (fun x => pl x.y) L = 2 * (i - 1 : Nat)
  z : sumOf (fun x => pl x.z) L = (i - 1 : Nat)
theorem Laid.nil : Laid [] 0 0 := ⟨rfl, fun _ h => absurd h (by omega), fun _ h => absurd h (by omega), rfl, rfl, rfl⟩
theorem Laid.first {x : It} (hk : x.kind = 1) (hy : x.y = 0) (hz : x.z = 0) (h0 : 0 ≤ x.w) (h1 : x.w ≤ 255) : Laid [x] 1 x.w := by
  refine ⟨rfl, fun j hj => ?_, fun j h => absurd h (by omega), ?_, ?_, ?_⟩
  · obtain rfl : j = 0 := by omega
    exact ⟨x, rfl, hk⟩
  · simp [sumOf, It.wide, hk, pl]; omega
  · simp [sumOf, pl, hy]
  · simp [sumOf, pl, hz]
theorem Laid.more {L : List It} {i : Nat} {s : Int} (h : Laid L i s) (hi : 0 < i) {x : It} (hk : x.kind = 1) (hy : x.y = 0) (hz : x.z = 0) (h0 : 0 ≤ x.w) (h1 : x.w ≤ 255) : Laid (L ++ [spc] ++ [x]) (i + 1) (s + 4 + x.w) := by
  have hl := h.len
  refine ⟨by simp [hl]; omega, fun j hj => ?_, fun j hj => ?_, ?_, ?_, ?_⟩
  · by_cases e : j < i
    · obtain ⟨y, hy, hk⟩ := h.box j e
      refine ⟨y, ?_, hk⟩
      rw [List.append_assoc, List.getElem?_append_left (by rw [hl]; omega)]; exact hy
    · obtain rfl : j = i := by omega
      refine ⟨x, ?_, hk⟩
      rw [List.getElem?_append_right (by simp [hl]; omega)]
      simp only [List.length_append, List.length_cons, List.length_nil, hl]
      rw [show 2 * j - (2 * j - 1 + (0 + 1)) = 0 from by omega]; rfl
  · by_cases e : j + 1 < i
    · rw [List.append_assoc, List.getElem?_append_left (by rw [hl]; omega)]; exact h.glue j e
    · obtain rfl : j + 1 = i := by omega
      rw [List.append_assoc, List.getElem?_append_right (by rw [hl]; omega), hl]
      rw [show 2 * j + 1 - (2 * (j + 1) - 1) = 0 from by omega]; rfl
  · rw [sumOf_append, sumOf_append, h.w]
    have e1 : x.wide = x.w := by simp [It.wide, hk, pl]; omega
    have e2 : spc.wide = 4 := rfl
    simp [sumOf, e1, e2]
  · rw [sumOf_append, sumOf_append, h.y]
    simp [sumOf, pl, hy, spc]; omega
  · rw [sumOf_append, sumOf_append, h.z]
    simp [sumOf, pl, hz, spc]; omega
theorem seg_all (L : List It) : seg L 0 L.length = L := by simp [seg]
theorem penW_end (L : List It) : penW L L.length = 0 := by simp [penW]
theorem laid_lines {L : List It} {n : Nat} {s : Int} (h : Laid L n s) {j : Nat} (hj : j + 1 < n) :
    line L (-1) L.length = ⟨s, 2 * (n - 1 : Nat), (n - 1 : Nat)⟩ ∧ (line L (-1) (2 * j + 1 : Nat)).w + (line L (2 * j + 1 : Nat) L.length).w + 4 = s ∧
      (line L (-1) (2 * j + 1 : Nat)).y + (line L (2 * j + 1 : Nat) L.length).y + 2 = 2 * (n - 1 : Nat) ∧ (line L (-1) (2 * j + 1 : Nat)).z + (line L (2 * j + 1 : Nat) L.length).z + 1 = (n - 1 : Nat) := by
  have hl := h.len
  obtain ⟨x0, hx0, k0⟩ := h.box 0 (by omega)
  obtain ⟨x1, hx1, k1⟩ := h.box (j + 1) (by omega)
  have hg := h.glue j hj
  have n0 : nb L 0 = 0 := nb_box hx0 k0
  have n1 : nb L (2 * j + 1 + 1) = 2 * j + 1 + 1 := nb_box (by rw [show 2 * j + 1 + 1 = 2 * (j + 1) from by omega]; exact hx1) k1
  have key : ∀ f : It → Int, sumOf f L = sumOf f (seg L 0 (2 * j + 1)) + f spc + sumOf f (seg L (2 * j + 1 + 1) L.length) := fun f => by
    conv => lhs; rw [← seg_all L, seg_split (l := L) (show 0 ≤ 2 * j + 1 + 1 by omega) (show 2 * j + 1 + 1 ≤ L.length by omega), seg_next (show 0 ≤ 2 * j + 1 by omega) hg, sumOf_append, sumOf_append]
    simp [sumOf]
  unfold line
  rw [fst_neg, n0, fst_nat L (show 2 * j + 1 < L.length by omega), n1, toAt_nat (Nat.le_refl L.length), toAt_nat (show 2 * j + 1 ≤ L.length by omega)]
  rw [lineAt_of (penW_end L), lineAt_of (penW_end L), lineAt_of (penW_no hg (by decide)), seg_all]
  refine ⟨?_, ?_, ?_, ?_⟩
  · simp only [Sm.of, h.w, h.y, h.z]
  · have := key It.wide
    rw [h.w] at this
    have e2 : spc.wide = 4 := rfl
    simp only [Sm.of]; omega
  · have := key (fun x => pl x.y)
    rw [h.y] at this
    have e2 : pl spc.y = 2 := rfl
    simp only [Sm.of, e2] at this ⊢; omega
  · have := key (fun x => pl x.z)
    rw [h.z] at this
    have e2 : pl spc.z = 1 := rfl
    simp only [Sm.of, e2] at this ⊢; omega
end Go.Proofs.Ytnojikbecohhfaa
