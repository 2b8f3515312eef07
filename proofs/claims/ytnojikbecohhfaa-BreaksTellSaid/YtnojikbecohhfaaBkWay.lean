/- The walks over pages.better and slices.Clone (at ints). -/
import Derived.Test.YtnojikbecohhfaaBkCmp
namespace Go.Proofs.Ytnojikbecohhfaa
set_option linter.unusedSimpArgs false
set_option linter.unusedVariables false
open Go.RowKit Go.Sort

theorem alloc_two (w : World) (o1 o2 : Obj) : ((w.alloc o1).alloc o2).heap[w.heap.size]? = some o1 ∧ ((w.alloc o1).alloc o2).heap[w.heap.size + 1]? = some o2 := by
  have h1 := heap_alloc_new w o1
  have h2 := heap_alloc_new (w.alloc o1) o2
  rw [World.size_alloc] at h2
  exact ⟨bBlk ((Below.refl _ _).alloc (Nat.le_refl _) _) (Array.getElem?_eq_some_iff.1 h1).1 h1, h2⟩
def wyv (A : Option Addr) (n c : Nat) (t o : Int) : Value := .agg #[.slice A n c, .int .i64 t, .int .i64 o]
set_option maxRecDepth 100000 in
theorem better_any {A A' : Option Addr} {n m c c' : Nat} {a b : WY} {o o' : Int} (w : World) (ha : IvAt w w.heap.size A n c a.ends) (hb : IvAt w w.heap.size A' m c' b.ends) (hn : n ≤ 1000000) (hm : m ≤ 1000000) :
    Calls Try.prog 43 #[wyv A n c a.total o, wyv A' m c' b.total o'] w (Ret w (.bool (bett a b))) := by
  have hcm := fun W (h : Below w.heap.size w W) => compare_any W (ha.nxt h) (hb.nxt h) (Nat.le_refl _) (Nat.le_refl _) hn hm
  obtain ⟨ae, at_, ao⟩ := a
  obtain ⟨be, bt, bo⟩ := b
  unfold wyv bett
  simp only at hcm ⊢
  obtain ⟨R, hR⟩ : ∃ R, (if at_ = bt then decide (cmpL ae be < 0) else decide (at_ < bt)) = R := ⟨_, rfl⟩
  rw [hR]
  clear ha hb
  by_cases he : at_ = bt
  · subst he
    rw [if_pos rfl] at hR
    have HE := Lib.hid hR
    clear hR
    go_enter Try.func43, Try.ntmps43
    go_upto_region 1 with (fail)
    obtain ⟨V, hV⟩ : ∃ q, (w.alloc (.cells #[.slice A n c, .int .i64 at_, .int .i64 o] 37)).alloc (.cells #[.slice A' m c', .int .i64 at_, .int .i64 o'] 37) = q := ⟨_, rfl⟩
    have hB : Below w.heap.size w V := by rw [← hV]; exact ((Below.refl _ _).alloc (Nat.le_refl _) _).alloc (by simp) _
    have v2 : V.heap[w.heap.size]? = some (.cells #[.slice A n c, .int .i64 at_, .int .i64 o] 37) := by rw [← hV]; exact (alloc_two _ _ _).1
    have v3 : V.heap[w.heap.size + 1]? = some (.cells #[.slice A' m c', .int .i64 at_, .int .i64 o'] 37) := by rw [← hV]; exact (alloc_two _ _ _).2
    rw [hV]
    clear hV
    have k20 : V.cell? ⟨w.heap.size, 0, none⟩ = some (.slice A n c) := blk_cell v2 rfl
    have k21 : V.cell? ⟨w.heap.size, 1, none⟩ = some (.int .i64 at_) := blk_cell v2 rfl
    have k30 : V.cell? ⟨w.heap.size + 1, 0, none⟩ = some (.slice A' m c') := blk_cell v3 rfl
    have k31 : V.cell? ⟨w.heap.size + 1, 1, none⟩ = some (.int .i64 at_) := blk_cell v3 rfl
    have hc := hcm V hB
    have HB := Lib.hid hB
    clear hcm hB v2 v3
    go_wp2_with fail
    refine Calls.mono hc ?_
    rintro e w' ⟨rfl, rfl⟩
    clear hc
    go_wp2_with fail
    go_ret
    exact Ret.mk (vbool (by rw [HE.out])) HB.out
  · rw [if_neg he] at hR
    have HE := Lib.hid hR
    clear hR
    go_enter Try.func43, Try.ntmps43
    go_upto_region 1 with (fail)
    obtain ⟨V, hV⟩ : ∃ q, (w.alloc (.cells #[.slice A n c, .int .i64 at_, .int .i64 o] 37)).alloc (.cells #[.slice A' m c', .int .i64 bt, .int .i64 o'] 37) = q := ⟨_, rfl⟩
    have hB : Below w.heap.size w V := by rw [← hV]; exact ((Below.refl _ _).alloc (Nat.le_refl _) _).alloc (by simp) _
    have v2 : V.heap[w.heap.size]? = some (.cells #[.slice A n c, .int .i64 at_, .int .i64 o] 37) := by rw [← hV]; exact (alloc_two _ _ _).1
    have v3 : V.heap[w.heap.size + 1]? = some (.cells #[.slice A' m c', .int .i64 bt, .int .i64 o'] 37) := by rw [← hV]; exact (alloc_two _ _ _).2
    rw [hV]
    clear hV
    have k21 : V.cell? ⟨w.heap.size, 1, none⟩ = some (.int .i64 at_) := blk_cell v2 rfl
    have k31 : V.cell? ⟨w.heap.size + 1, 1, none⟩ = some (.int .i64 bt) := blk_cell v3 rfl
    have HB := Lib.hid hB
    have hne : (at_ == bt) = false := by simpa using he
    clear hcm hB v2 v3
    go_wp2_with fail
    go_ret
    exact Ret.mk (vbool (by rw [HE.out])) HB.out
attribute [-go_sem] Builtin.append_
set_option maxRecDepth 100000 in
theorem clone_any {A : Option Addr} {n c : Nat} {l : List Int} (w : World) (h : IvAt w w.heap.size A n c l) (hn : n ≤ 1000000) :
    Calls Try.prog 48 #[.slice A n c] w fun e w' => ∃ A' c', e = .returned (.slice A' n c') ∧ w'.ownsRow w.heap.size 3 1 (.slice A' n c') n (ivs l) ∧ Below w.heap.size w w' := by
  have hln := h.len
  have ho := one_ivs l
  rcases A with _ | a
  · have hn0 : n = 0 := by
      rcases Nat.eq_zero_or_pos n with h0 | h0
      · exact h0
      · obtain ⟨b, o, e, -⟩ := h.sl.at_ h0; cases e
    subst hn0
    obtain rfl : l = [] := List.eq_nil_of_length_eq_zero hln
    have he : ∀ w, (binOp .eql 25 (.slice none 0 c) (.slice none 0 0)).run Try.prog w = .ok (.bool true) w := fun _ => rfl
    clear h hln ho
    go_enter Try.func48, Try.ntmps48
    go_wp2_with fail
    go_ret
    exact ⟨none, 0, rfl, World.ownsRow_nil _ _ _ _, Below.refl _ _⟩
  · have he : ∀ w, (binOp .eql 25 (.slice (some a) n c) (.slice none 0 0)).run Try.prog w = .ok (.bool false) w := fun _ => rfl
    have hbA : Below w.heap.size w (w.alloc (.cells #[] 3)) := (Below.refl _ _).alloc (Nat.le_refl _) _
    have hs1 := h.sl.below hbA
    clear h
    go_enter Try.func48, Try.ntmps48
    go_wp2_with (first
      | (at_builtin; refine wpList_app _ rfl (.tmp 5) (.tmp 6) 25 rfl (base := w.heap.size) Try.underlying25 elemI rfl (own_none' w w.heap.size 3 1 (Nat.le_refl _)) rfl hs1 ho (by simp only [maxLen]; omega) (by omega) (by simp) ?_; intro A7 c7 w7 hown hg hbb hat; simp only [Nat.zero_add, List.nil_append] at hown ⊢)
      | fail)
    go_ret
    exact ⟨A7, c7, rfl, hown, hbA.trans hbb⟩
end Go.Proofs.Ytnojikbecohhfaa
