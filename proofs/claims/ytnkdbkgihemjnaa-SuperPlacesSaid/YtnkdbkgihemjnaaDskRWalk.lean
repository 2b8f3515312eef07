/- The walks over codexref01's New, has, goes. -/
import Derived.Test.YtnkdbkgihemjnaaDskRMem
namespace Go.Proofs.Ytnkdbkgihemjnaa
set_option linter.unusedSimpArgs false
set_option linter.unusedVariables false
open Go.RowKit

structure RHd (w : World) (p B n : Nat) (v : Value) (f : Int) (d : Nat) (x : Bool) : Prop where
  blk : w.heap[p]? = some (.cells (rHead B n v f d x) 53)
  c0 : w.cell? ⟨p, 0, none⟩ = some (.slice (some ⟨B, 0, none⟩) n n)
  c1 : w.cell? ⟨p, 1, none⟩ = some v
  c2 : w.cell? ⟨p, 2, none⟩ = some (.int .i64 f)
  c3 : w.cell? ⟨p, 3, none⟩ = some (.bool x)
  c4 : w.cell? ⟨p, 4, none⟩ = some (.int .i64 (d : Int))
  fr : ∀ k, w.frozen? ⟨p, k, none⟩ = false
theorem RDk.hds {w : World} {base p B : Nat} {v : Value} {s : DS} {F : Int} (h : RDk w base p B v s F) : RHd w p B s.bl.length v F s.done s.down :=
  ⟨h.hd, blk_cell h.hd rfl, blk_cell h.hd rfl, blk_cell h.hd rfl, blk_cell h.hd rfl, blk_cell h.hd rfl, blk_frozen h.hd⟩

theorem rnew_any (n : Nat) (h1 : 16 ≤ n) (h2 : n ≤ 128) (w : World) :
    Calls Try.prog 18 #[.int .i64 n] w fun e w' => e = .returned (.tuple #[dp (w.heap.size + 1), .int .i64 0]) ∧ RDk w' w.heap.size (w.heap.size + 1) w.heap.size (.slice none 0 0) (DS.new n) (-1) ∧ Below w.heap.size w w' := by
  have hmk := fun W => make_blocks h2 W
  have g1 : ¬ (n : Int) < 16 := by omega
  have g2 : ¬ (128 : Int) < n := by omega
  go_enter Try.func18, Try.ntmps18
  go_wp2_with fail
  go_ret2
  refine ⟨by simp [dp], ⟨?_, ?_, ?_, by omega, by omega, by omega, by simp [Value.ownBlock], by simp [Value.ownBlock], DS.new_ok h1 h2, by simp [DS.new], by omega⟩, (by repeat (first | (with_reducible exact Below.refl _ _) | (with_reducible refine bDrewN ?_ _) | (with_reducible refine Below.drew ?_) | (with_reducible refine Below.alloc ?_ ?_ _) | (with_reducible refine Below.setCell ?_ ?_ _) | (with_reducible assumption) | go_size))⟩
  · rw [heap_alloc_two]; simp [rHead, DS.new]
  · exact (Below.heap_alloc _ _ _ (by simp)).trans (heap_alloc_new _ _)
  · exact World.ownsRow_nil _ _ _ _
theorem rnew_arg (n : Int) (h : n < 16 ∨ 128 < n) (w : World) :
    Calls Try.prog 18 #[.int .i64 n] w fun e w' => e = .returned (.tuple #[.pointer none, .int .i64 1]) ∧ w = w' := by
  go_enter Try.func18, Try.ntmps18
  by_cases g1 : n < 16
  · go_wp2_with fail
    go_ret2
    exact ⟨rfl, rfl⟩
  · have g2 : (128 : Int) < n := by omega
    go_wp2_with fail
    go_ret2
    exact ⟨rfl, rfl⟩
theorem rhas_any {w : World} {base p B : Nat} {v : Value} {s : DS} {F : Int} (h : RDk w base p B v s F) (i : Int) : Calls Try.prog 57 #[dp p, .int .i64 i] w fun e w' => e = .returned (.bool (s.inB i)) ∧ w = w' := by
  obtain ⟨hb, c0, c1, c2, c3, c4, fr⟩ := h.hds
  have HV := Lib.hid (DS.inB_iff (s := s) (i := i))
  unfold dp at *
  generalize s.inB i = t at *
  clear hb
  go_enter Try.func57, Try.ntmps57
  by_cases h0 : 0 ≤ i
  · go_wp2_with fail
    go_ret
    refine ⟨ret_bool ?_, rfl⟩
    rw [Bool.eq_iff_iff, HV.out]; simp [h0]
  · go_wp2_with fail
    go_ret
    refine ⟨ret_bool ?_, rfl⟩
    rw [Bool.eq_iff_iff, HV.out]; simp; omega
theorem rgoes_any {w : World} {base p B : Nat} {v : Value} {s : DS} {F : Int} (h : RDk w base p B v s F) (hd : s.done < 4611686018427387904) :
    Calls Try.prog 58 #[dp p] w fun e w' => e = .returned (.bool (!s.stops)) ∧ ∃ F', RDk w' base p B v s.pass F' ∧ But w.heap.size (· = p) w w' := by
  have hF := h.hF
  have f63 := h.f63
  have HP : Hid (∀ w' F', But w.heap.size (· = p) w w' → w'.heap[p]? = some (.cells (rHead B s.bl.length v F' s.pass.done s.pass.down) 53) → max F' (-1) = s.pass.fuse → -9223372036854775808 ≤ F' ∧ F' ≤ 9223372036854775807 → ∃ F', RDk w' base p B v s.pass F' ∧ But w.heap.size (· = p) w w') := Lib.hid fun w' F' hb hh e1 e2 =>
    ⟨F', h.head hb (Nat.le_refl _) (by rw [show s.pass.bl = s.bl from by unfold DS.pass; split <;> rfl]; exact hh) (by unfold DS.pass; split <;> rfl) (by unfold DS.pass; split <;> rfl) h.ok.pass e1 e2, hb⟩
  obtain ⟨hb, c0, c1, c2, c3, c4, fr⟩ := h.hds
  clear h
  unfold dp
  obtain ⟨bl, lo, fuse, done, down⟩ := s
  simp only at *
  go_enter Try.func58, Try.ntmps58
  cases down
  · by_cases h0 : F = 0
    · subst h0
      have hf0 : fuse = 0 := by omega
      go_wp2_with fail
      go_ret
      refine ⟨ret_bool (by simp [DS.stops, hf0]), HP.out _ 0 ?_ ?_ (by simp [DS.pass, DS.stops, DS.cut, hf0]; omega) (by omega)⟩
      · exact (But.refl _ _ _).setp 3 _
      · have := blk_set hb 3 (.bool true)
        simpa [rHead, DS.pass, DS.stops, DS.cut, hf0] using this
    · have d0 : decide (F = 0) = false := by simp [h0]
      have hf0 : ¬ fuse = 0 := by omega
      have hw : IntKind.i64.wrap ((done : Int) + 1) = ((done + 1 : Nat) : Int) := by rw [wrap_small _ (by omega) (by omega)]; omega
      have hp : DS.pass ⟨bl, lo, fuse, done, false⟩ = DS.gone ⟨bl, lo, fuse, done, false⟩ := by simp [DS.pass, DS.stops, hf0]
      have he : DS.stops ⟨bl, lo, fuse, done, false⟩ = false := by simp [DS.stops, hf0]
      have HPP := Lib.hid hp
      have HE := Lib.hid he
      clear hp he
      by_cases h1 : 0 < F
      · have hff : fuse = F := by omega
        have hw2 : IntKind.i64.wrap (F - 1) = F - 1 := wrap_small _ (by omega) (by omega)
        have HFF : Hid (max (F - 1) (-1) = fuse - 1 ∧ 0 < fuse) := Lib.hid (by omega)
        clear hff hF hf0
        go_wp2_with fail
        go_ret
        refine ⟨ret_bool (by rw [HE.out]; rfl), HP.out _ (F - 1) ?_ ?_ ?_ (by omega)⟩
        · exact (((But.refl _ _ _).setp 3 _).setp 2 _).setp 4 _
        · have := blk_set (blk_set (blk_set hb 3 (.bool false)) 2 (.int .i64 (F - 1))) 4 (.int .i64 ((done + 1 : Nat) : Int))
          rw [HPP.out]; simpa [rHead, DS.gone] using this
        · rw [HPP.out]; simp only [DS.gone, if_pos HFF.out.2]; exact HFF.out.1
      · have HFF : Hid (max F (-1) = fuse ∧ ¬ 0 < fuse) := Lib.hid (by omega)
        clear hF hf0
        go_wp2_with fail
        go_ret
        have q := HP.out ((w.setCell ⟨p, 3, none⟩ (.bool false)).setCell ⟨p, 4, none⟩ (.int .i64 ((done : Int) + 1))) F (((But.refl _ _ _).setp 3 _).setp 4 _)
          (by
            have := blk_set (blk_set hb 3 (.bool false)) 4 (.int .i64 ((done + 1 : Nat) : Int))
            rw [HPP.out]; simpa [rHead, DS.gone] using this)
          (by have h9 := HFF.out; rw [HPP.out]; simp only [DS.gone]; rw [if_neg (by omega)]; exact h9.1) f63
        refine ⟨ret_bool (by rw [HE.out]; rfl), ?_⟩
        obtain ⟨x, qa, qb⟩ := q
        first
          | exact ⟨x, qa, qb⟩
          | exact ⟨⟨x, qa⟩, qb⟩
  · go_wp2_with fail
    go_ret
    refine ⟨ret_bool (by simp [DS.stops]), HP.out _ F ?_ ?_ (by simpa [DS.pass, DS.stops, DS.cut] using hF) f63⟩
    · exact (But.refl _ _ _).setp 3 _
    · have := blk_set hb 3 (.bool true)
      simpa [rHead, DS.pass, DS.stops, DS.cut] using this
end Go.Proofs.Ytnkdbkgihemjnaa
