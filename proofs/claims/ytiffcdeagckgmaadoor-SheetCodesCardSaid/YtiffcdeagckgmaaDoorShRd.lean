/- sheet's reader: bytes that are read; reader.take. -/
import Derived.Test.YtiffcdeagckgmaaDoorShEnc
import Derived.Test.YtiffcdeagckgmaaDoorHeldE
namespace Go.Proofs.YtiffcdeagckgmaaDoor
set_option linter.unusedSimpArgs false
set_option linter.unusedVariables false
open Go.RowKit Go.ChangeShapes Go.WideShapes Go.Sort Go.Deep

structure RS where
  b : List UInt8
  ok : Bool
/-- the next k bytes, and what is left -/
def takeD (k : Nat) (s : RS) : List UInt8 × RS := if k ≤ s.b.length then (s.b.take k, ⟨s.b.drop k, s.ok⟩) else (List.replicate k 0, ⟨s.b, false⟩)
theorem takeD_len (k : Nat) (s : RS) : (takeD k s).1.length = k := by
  unfold takeD
  split
  · simp; omega
  · simp
theorem takeD_le (k : Nat) (s : RS) : (takeD k s).2.b.length ≤ s.b.length := by
  unfold takeD
  split
  · simp
  · simp
/-- a reader in block p -/
structure RdAt (w : World) (p : Nat) (s : RS) : Prop where
  at_ : ∃ A n c, w.heap[p]? = some (.cells #[.slice A n c, .bool s.ok] 60) ∧ n = s.b.length ∧ Sl w p 1 A n (bvs s.b) ∧ n ≤ c ∧ c ≤ maxLen
theorem RdAt.but {w w' : World} {p : Nat} {s : RS} {X : Nat → Prop} {N : Nat} (h : RdAt w p s) (hb : But N X w w') (hp : p < N) (hX : ∀ k, X k → p < k) : RdAt w' p s := by
  obtain ⟨A, n, c, h1, h2, h3, h4, h5⟩ := h.at_
  exact ⟨A, n, c, hb.blk hp (fun x => by have := hX p x; omega) h1, h2, h3.below (hb.below (by omega) (fun k hk => by have := hX k hk; omega)), h4, h5⟩
theorem RdAt.next {w w' : World} {p : Nat} {s : RS} (h : RdAt w p s) (hb : Below w.heap.size w w') : RdAt w' p s := by
  obtain ⟨A, n, c, h1, h2, h3, h4, h5⟩ := h.at_
  have hp := (Array.getElem?_eq_some_iff.1 h1).1
  exact ⟨A, n, c, bBlk hb hp h1, h2, h3.below (hb.mono (by omega)), h4, h5⟩
theorem RdAt.lt {w : World} {p : Nat} {s : RS} (h : RdAt w p s) : p < w.heap.size := by
  obtain ⟨A, n, c, h1, -⟩ := h.at_
  exact (Array.getElem?_eq_some_iff.1 h1).1
/-- k bytes of another block than p -/
structure Off (w : World) (p : Nat) (A : Option Addr) (k : Nat) (l : List UInt8) : Prop where
  len : l.length = k
  at_ : 0 < k → ∃ b o, A = some ⟨b, o, none⟩ ∧ b ≠ p ∧ b < w.heap.size ∧ w.rangeAt b o (bvs l)
theorem Off.sl {w : World} {p : Nat} {A : Option Addr} {k : Nat} {l : List UInt8} (h : Off w p A k l) : Sl w w.heap.size 1 A k (bvs l) :=
  ⟨by rw [bvs_len, h.len, Nat.mul_one], fun hk => by obtain ⟨b, o, e, -, h1, h2⟩ := h.at_ hk; exact ⟨b, o, e, h1, h2⟩⟩
theorem Off.but {w w' : World} {p : Nat} {A : Option Addr} {k : Nat} {l : List UInt8} (h : Off w p A k l) (hb : But w.heap.size (· = p) w w') : Off w' p A k l :=
  ⟨h.len, fun hk => by obtain ⟨b, o, e, h0, h1, h2⟩ := h.at_ hk; exact ⟨b, o, e, h0, Nat.lt_of_lt_of_le h1 hb.size, hb.range h1 h0 h2⟩⟩
theorem madeU_eq (k : Nat) : madeCells #[.int .u8 0] k = (bvs (List.replicate k 0)).toArray := by
  apply Array.ext
  · unfold madeCells; simp [bvs]
  · intro i h1 h2
    unfold madeCells
    simp [bvs, bv, Nat.mod_one]
theorem make_u8s (n : Nat) (hn : n ≤ 1000) (w : World) : (Instr.makeSlice 25 (.int .i64 (n : Int)) (.int .i64 (n : Int))).run Tryd.prog w = .ok (.slice (some ⟨w.heap.size, 0, none⟩) n n) (w.alloc (.cells (bvs (List.replicate n 0)).toArray 5)) := by
  have h : (Tryd.prog.info? 5).map (fun i => (i.zero, i.size, i.bytes)) = some (some (.int .u8 0), 1, 1) := by kernel_rfl
  cases hq : Tryd.prog.info? 5 with
  | none => rw [hq] at h; cases h
  | some i =>
    rw [hq] at h
    have hz : i.zero = some (.int .u8 0) := by have := h; simp only [Option.map_some, Option.some.injEq, Prod.mk.injEq] at this; exact this.1
    have hs : i.size = 1 := by have := h; simp only [Option.map_some, Option.some.injEq, Prod.mk.injEq] at this; exact this.2.1
    have hb : i.bytes = 1 := by have := h; simp only [Option.map_some, Option.some.injEq, Prod.mk.injEq] at this; exact this.2.2
    have := run_make (P := Tryd.prog) w 25 5 i _ (by kernel_rfl) hq hz .i64 .i64 (n : Int) (n : Int) (by omega) (by omega) (by rw [hb]; omega) (by omega)
    rw [this, hs, ← madeU_eq]
    simp only [Value.cells, Int.toNat_natCast, Nat.mul_one]
def TakeP (w : World) (p k : Nat) (s : RS) (e : Ending) (w' : World) : Prop :=
  ∃ A c, e = .returned (.slice A k c) ∧ Off w' p A k (takeD k s).1 ∧ RdAt w' p (takeD k s).2 ∧ But w.heap.size (· = p) w w' ∧ k ≤ c ∧ c ≤ maxLen ∧ (∀ b o, 0 < k → A = some ⟨b, o, none⟩ → b < p ∨ w.heap.size ≤ b)
theorem take_yes {w : World} {p k n c c2 n2 : Nat} {A A2 : Option Addr} {s : RS} (h1 : w.heap[p]? = some (.cells #[.slice A n c, .bool s.ok] 60)) (h2 : n = s.b.length) (h3 : Sl w p 1 A n (bvs s.b)) (h4 : n ≤ c) (h5 : c ≤ maxLen) (hkn : k ≤ n)
    (hA : (if c = k then A else A.map (·.add (k * 1))) = A2) (hc : c2 = c - k) (hn2 : n2 = n - k) : TakeP w p k s (.returned (.slice A k c)) (w.setCell ⟨p, 0, none⟩ (.slice A2 n2 c2)) := by
  subst hn2
  have hp := (Array.getElem?_eq_some_iff.1 h1).1
  have hb : But w.heap.size (· = p) w (w.setCell ⟨p, 0, none⟩ (.slice A2 (n - k) c2)) := (But.refl _ _ _).setp 0 _
  have hB : Below p w (w.setCell ⟨p, 0, none⟩ (.slice A2 (n - k) c2)) := hb.below (by omega) (fun k hk => by omega)
  have ht : takeD k s = (s.b.take k, ⟨s.b.drop k, s.ok⟩) := if_pos (by omega)
  rw [TakeP, ht]
  have e1 := h3.cut (lo := 0) (hi := k) (cap := c) (by omega) hkn h4
  have e2 := h3.cut (lo := k) (hi := n) (cap := c) hkn (Nat.le_refl _) h4
  rw [hA] at e2
  have f2 : ((bvs s.b).drop (k * 1)).take ((n - k) * 1) = bvs (s.b.drop k) := by
    rw [Nat.mul_one, Nat.mul_one, bvs, bvs, ← List.map_drop, List.take_of_length_le (by simp; omega)]
  rw [f2] at e2
  refine ⟨A, c, rfl, ⟨by simp; omega, fun hk => ?_⟩, ⟨A2, n - k, c2, blk_set h1 0 _, by simp; omega, e2.below hB, by omega, by simp only [maxLen] at *; omega⟩, hb, by omega, h5, fun b o hk e => by obtain ⟨b', o', e', hbp, -⟩ := h3.at_ (by omega); rw [e] at e'; cases e'; exact .inl hbp⟩
  obtain ⟨b, o, e, hbp, hr⟩ := h3.at_ (by omega)
  refine ⟨b, o, e, by omega, by simp; omega, bRange hB hbp ?_⟩
  have := range_cut hr 0 k
  rw [List.drop_zero, Nat.add_zero] at this
  rw [bvs, List.map_take]
  exact this
theorem take_no {w : World} {p k n c : Nat} {A : Option Addr} {s : RS} (h1 : w.heap[p]? = some (.cells #[.slice A n c, .bool s.ok] 60)) (h2 : n = s.b.length) (h3 : Sl w p 1 A n (bvs s.b)) (h4 : n ≤ c) (h5 : c ≤ maxLen) (hk : k ≤ 255) (hkn : n < k) :
    TakeP w p k s (.returned (.slice (some ⟨w.heap.size, 0, none⟩) k k)) ((w.setCell ⟨p, 1, none⟩ (.bool false)).alloc (.cells (bvs (List.replicate k 0)).toArray 5)) := by
  have hp := (Array.getElem?_eq_some_iff.1 h1).1
  have hb : But w.heap.size (· = p) w ((w.setCell ⟨p, 1, none⟩ (.bool false)).alloc (.cells (bvs (List.replicate k 0)).toArray 5)) := ((But.refl _ _ _).setp 1 _).alloc (by simp) _
  have hB := hb.below (m := p) (by omega) (fun k hk => by omega)
  have ht : takeD k s = (List.replicate k 0, ⟨s.b, false⟩) := if_neg (by omega)
  rw [TakeP, ht]
  have hn := heap_alloc_new (w.setCell ⟨p, 1, none⟩ (.bool false)) (.cells (bvs (List.replicate k 0)).toArray 5)
  simp only [World.size_setCell] at hn
  refine ⟨_, _, rfl, ⟨by simp, fun _ => ⟨w.heap.size, 0, rfl, by omega, by simp, range_blk hn⟩⟩, ⟨A, n, c, ?_, h2, h3.below hB, h4, h5⟩, hb, Nat.le_refl _, by simp only [maxLen]; omega, fun b o _ e => by cases e; exact .inr (Nat.le_refl _)⟩
  have h6 := blk_set h1 1 (.bool false)
  have h7 := bBlk ((Below.refl (w.setCell ⟨p, 1, none⟩ (.bool false)).heap.size _).alloc (Nat.le_refl _) (.cells (bvs (List.replicate k 0)).toArray 5)) (by simpa using hp) h6
  exact h7
set_option maxRecDepth 100000 in
theorem take_any {p k : Nat} {s : RS} (w : World) (h : RdAt w p s) (hk : k ≤ 255) :
    Calls Tryd.prog 22 #[.pointer (some ⟨p, 0, none⟩), .int .i64 k] w (TakeP w p k s) := by
  obtain ⟨A, n, c, h1, h2, h3, h4, h5⟩ := h.at_
  have hp := (Array.getElem?_eq_some_iff.1 h1).1
  have c0 : w.cell? ⟨p, 0, none⟩ = some (.slice A n c) := blk_cell h1 rfl
  have c1 : w.cell? ⟨p, 1, none⟩ = some (.bool s.ok) := blk_cell h1 rfl
  have f0 := blk_frozen h1 0
  have f1 := blk_frozen h1 1
  have HX := Lib.hid (And.intro h1 (And.intro h2 (And.intro h3 h5)))
  clear h h1 h2 h3 h5
  by_cases hkn : k ≤ n
  · have g1 : (k : Int) ≤ n := by omega
    have hm := HX.out.2.2.2
    simp only [maxLen] at hm
    by_cases hck : c = k
    · subst hck
      go_enter Tryd.func22, Tryd.ntmps22
      go_wp2_with fail
      go_ret
      exact take_yes HX.out.1 HX.out.2.1 HX.out.2.2.1 h4 HX.out.2.2.2 hkn (if_pos rfl) (Nat.sub_self _).symm (by omega)
    · go_enter Tryd.func22, Tryd.ntmps22
      go_wp2_with fail
      go_ret
      exact take_yes HX.out.1 HX.out.2.1 HX.out.2.2.1 h4 HX.out.2.2.2 hkn (by rw [if_neg hck, Nat.mul_one]) rfl rfl
  · have g1 : (n : Int) < k := by omega
    have hmk := make_u8s k (by omega)
    go_enter Tryd.func22, Tryd.ntmps22
    go_wp2_with fail
    go_ret
    exact take_no HX.out.1 HX.out.2.1 HX.out.2.2.1 h4 HX.out.2.2.2 hk (by omega)
end Go.Proofs.YtiffcdeagckgmaaDoor
