
/- The walks over the disk's small functions: Len, Loose, Done, Down, has, pass, Fuse. -/
import Derived.Test.YtnkdbkgihemjnaaDskMem
namespace Go.Proofs.Ytnkdbkgihemjnaa
set_option linter.unusedSimpArgs false
set_option linter.unusedVariables false
open Go.RowKit

def dp (p : Nat) : Value := .pointer (some ⟨p, 0, none⟩)
/-- the struct's cells -/
structure Hd (w : World) (p B n : Nat) (v : Value) (f : Int) (d : Nat) (x : Bool) : Prop where
  blk : w.heap[p]? = some (.cells (dkHead B n v f d x) 107)
  c0 : w.cell? ⟨p, 0, none⟩ = some (.slice (some ⟨B, 0, none⟩) n n)
  c1 : w.cell? ⟨p, 1, none⟩ = some v
  c2 : w.cell? ⟨p, 2, none⟩ = some (.int .i64 f)
  c3 : w.cell? ⟨p, 3, none⟩ = some (.int .i64 (d : Int))
  c4 : w.cell? ⟨p, 4, none⟩ = some (.bool x)
  fr : ∀ k, w.frozen? ⟨p, k, none⟩ = false
theorem Hd.of {w : World} {p B n : Nat} {v : Value} {f : Int} {d : Nat} {x : Bool} (h : w.heap[p]? = some (.cells (dkHead B n v f d x) 107)) : Hd w p B n v f d x :=
  ⟨h, blk_cell h rfl, blk_cell h rfl, blk_cell h rfl, blk_cell h rfl, blk_cell h rfl, blk_frozen h⟩
theorem Dk.hds {w : World} {base p B : Nat} {v : Value} {s : DS} (h : Dk w base p B v s) : Hd w p B s.bl.length v s.fuse s.done s.down := Hd.of h.hd

theorem len_any {w : World} {base p B : Nat} {v : Value} {s : DS} (h : Dk w base p B v s) : Calls Try.prog 52 #[dp p] w fun e w' => e = .returned (.int .i64 (s.bl.length : Nat)) ∧ w = w' := by
  obtain ⟨hb, c0, c1, c2, c3, c4, fr⟩ := h.hds
  clear hb
  unfold dp
  go_enter Try.func52, Try.ntmps52
  go_wp2
  go_ret
  exact ⟨rfl, rfl⟩
theorem len_nil (w : World) : Calls Try.prog 52 #[.pointer none] w fun e w' => e = .returned (.int .i64 0) ∧ w = w' := by
  go_enter Try.func52, Try.ntmps52
  go_wp2
  go_ret
  exact ⟨rfl, rfl⟩
theorem down_any {w : World} {base p B : Nat} {v : Value} {s : DS} (h : Dk w base p B v s) : Calls Try.prog 60 #[dp p] w fun e w' => e = .returned (.bool s.down) ∧ w = w' := by
  obtain ⟨hb, c0, c1, c2, c3, c4, fr⟩ := h.hds
  clear hb
  unfold dp
  go_enter Try.func60, Try.ntmps60
  go_wp2
  go_ret
  exact ⟨rfl, rfl⟩
theorem down_nil (w : World) : Calls Try.prog 60 #[.pointer none] w fun e w' => e = .returned (.bool false) ∧ w = w' := by
  go_enter Try.func60, Try.ntmps60
  go_wp2
  go_ret
  exact ⟨rfl, rfl⟩

theorem dhas_any {w : World} {base p B : Nat} {v : Value} {s : DS} (h : Dk w base p B v s) (i : Int) : Calls Try.prog 55 #[dp p, .int .i64 i] w fun e w' => e = .returned (.bool (s.inB i)) ∧ w = w' := by
  have hl := len_any h
  have HV := Lib.hid (DS.inB_iff (s := s) (i := i))
  unfold dp at *
  generalize s.inB i = t at *
  go_enter Try.func55, Try.ntmps55
  by_cases h0 : 0 ≤ i
  · go_wp2_with fail
    refine hl.mono ?_
    rintro e w' ⟨rfl, rfl⟩
    go_wp2
    go_ret
    refine ⟨ret_bool ?_, rfl⟩
    rw [Bool.eq_iff_iff, HV.out]; simp [h0]
  · go_wp2_with fail
    go_ret
    refine ⟨ret_bool ?_, rfl⟩
    rw [Bool.eq_iff_iff, HV.out]; simp; omega
theorem dhas_nil (w : World) (i : Int) : Calls Try.prog 55 #[.pointer none, .int .i64 i] w fun e w' => e = .returned (.bool false) ∧ w = w' := by
  have hl := len_nil w
  go_enter Try.func55, Try.ntmps55
  by_cases h0 : 0 ≤ i
  · have h1 : ¬ i < 0 := by omega
    go_wp2_with fail
    refine hl.mono ?_
    rintro e w' ⟨rfl, rfl⟩
    go_wp2
    go_ret
    exact ⟨ret_bool (by simp; omega), rfl⟩
  · go_wp2_with fail
    go_ret
    exact ⟨rfl, rfl⟩

theorem pass_any {w : World} {base p B : Nat} {v : Value} {s : DS} (h : Dk w base p B v s) (hd : s.done < 4611686018427387904) :
    Calls Try.prog 56 #[dp p] w fun e w' => e = .returned (.int .i64 s.passE) ∧ Dk w' base p B v s.pass ∧ But w.heap.size (· = p) w w' := by
  have key : ∀ w', But w.heap.size (· = p) w w' → w'.heap[p]? = some (.cells (dkCells B v s.pass) 107) → Dk w' base p B v s.pass ∧ But w.heap.size (· = p) w w' := fun w' hb hh =>
    ⟨h.head hb (Nat.le_refl _) hh (by unfold DS.pass; split <;> rfl) (by unfold DS.pass; split <;> rfl) h.ok.pass, hb⟩
  have K := Lib.hid key
  have f63 := h.ok.f63
  obtain ⟨hb, c0, c1, c2, c3, c4, fr⟩ := h.hds
  clear key h
  unfold dp
  obtain ⟨bl, lo, fuse, done, down⟩ := s
  simp only at *
  go_enter Try.func56, Try.ntmps56
  cases down
  · by_cases h0 : fuse = 0
    · subst h0
      go_wp2_with fail
      go_ret
      refine ⟨rfl, K.out _ ?_ ?_⟩
      · exact (But.refl _ _ _).setp 4 _
      · have := blk_set hb 4 (.bool true)
        simpa [dkCells, dkHead, DS.pass, DS.stops, DS.cut] using this
    · have d0 : decide (fuse = 0) = false := by simp [h0]
      have hw : IntKind.i64.wrap ((done : Int) + 1) = ((done + 1 : Nat) : Int) := by rw [wrap_small _ (by omega) (by omega)]; omega
      have hp : DS.pass ⟨bl, lo, fuse, done, false⟩ = DS.gone ⟨bl, lo, fuse, done, false⟩ := by simp [DS.pass, DS.stops, h0]
      have he : DS.passE ⟨bl, lo, fuse, done, false⟩ = 0 := by simp [DS.passE, DS.stops, h0]
      have HP := Lib.hid hp
      clear hp
      rw [he]
      by_cases h1 : 0 < fuse
      · have hw2 : IntKind.i64.wrap (fuse - 1) = fuse - 1 := wrap_small _ (by omega) (by omega)
        go_wp2_with fail
        go_ret
        refine ⟨rfl, K.out _ ?_ ?_⟩
        · exact (((But.refl _ _ _).setp 4 _).setp 2 _).setp 3 _
        · have := blk_set (blk_set (blk_set hb 4 (.bool false)) 2 (.int .i64 (fuse - 1))) 3 (.int .i64 ((done + 1 : Nat) : Int))
          rw [HP.out]; simpa [dkCells, dkHead, DS.gone, h1] using this
      · go_wp2_with fail
        go_ret
        refine ⟨rfl, K.out _ ?_ ?_⟩
        · exact ((But.refl _ _ _).setp 4 _).setp 3 _
        · have := blk_set (blk_set hb 4 (.bool false)) 3 (.int .i64 ((done + 1 : Nat) : Int))
          have h2 : (if 0 < fuse then fuse - 1 else fuse) = fuse := if_neg (by omega)
          rw [HP.out]; simpa [dkCells, dkHead, DS.gone, h2] using this
  · go_wp2_with fail
    go_ret
    refine ⟨rfl, K.out _ ?_ ?_⟩
    · exact (But.refl _ _ _).setp 4 _
    · have := blk_set hb 4 (.bool true)
      simpa [dkCells, dkHead, DS.pass, DS.stops, DS.cut] using this

theorem fuse_any {w : World} {base p B : Nat} {v : Value} {s : DS} (h : Dk w base p B v s) (n : Int) (hn : n ≤ 9223372036854775807) :
    Calls Try.prog 25 #[dp p, .int .i64 n] w fun e w' => e = .returned (.tuple #[]) ∧ Dk w' base p B v (s.fuseTo n) ∧ But w.heap.size (· = p) w w' := by
  obtain ⟨hb, c0, c1, c2, c3, c4, fr⟩ := h.hds
  have K : Hid (∀ w', But w.heap.size (· = p) w w' → w'.heap[p]? = some (.cells (dkCells B v (s.fuseTo n)) 107) → Dk w' base p B v (s.fuseTo n) ∧ But w.heap.size (· = p) w w') := Lib.hid fun w' hb hh =>
    ⟨h.head hb (Nat.le_refl _) hh rfl rfl (h.ok.fuseTo hn), hb⟩
  clear h
  unfold dp
  go_enter Try.func25, Try.ntmps25
  go_wp2_with fail
  refine bodyPost_end (results_none rfl _ _ _) rfl ?_
  refine ⟨rfl, K.out _ ?_ ?_⟩
  · exact (But.refl _ _ _).setp 2 _
  · exact blk_set hb 2 _
theorem fuse_nil (w : World) (n : Int) : Calls Try.prog 25 #[.pointer none, .int .i64 n] w fun e w' => e = .returned (.tuple #[]) ∧ w = w' := by
  go_enter Try.func25, Try.ntmps25
  go_wp2_with fail
  refine bodyPost_end (results_none rfl _ _ _) rfl ?_
  exact ⟨rfl, rfl⟩
end Go.Proofs.Ytnkdbkgihemjnaa
