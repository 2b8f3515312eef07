/- The statements of layer 16: MeasureGrows. -/
import Derived.Test.YtaifbbmobhfjcaaMsrLaws
namespace Go.Proofs.Ytaifbbmobhfjcaa
set_option linter.unusedSimpArgs false
set_option linter.unusedVariables false
open Go.RowKit Go.ChangeShapes Go.WideShapes

theorem run_min3 {P : Program} (w : World) (ts : Array TypeId) (t : TypeId) (x y z : Int) : (Builtin.min_ ts t #[.int .i64 x, .int .i64 y, .int .i64 z]).run P w = .ok (.int .i64 (min (min x y) z)) w := by
  have e : (if z < (if y < x then y else x) then z else (if y < x then y else x)) = min (min x y) z := by
    simp only [Int.min_def]
    split <;> split <;> split <;> omega
  simp [Builtin.min_, Builtin.min2, e]
theorem run_max3 {P : Program} (w : World) (ts : Array TypeId) (t : TypeId) (x y z : Int) : (Builtin.max_ ts t #[.int .i64 x, .int .i64 y, .int .i64 z]).run P w = .ok (.int .i64 (max (max x y) z)) w := by
  have e : (if z > (if y > x then y else x) then z else (if y > x then y else x)) = max (max x y) z := by
    simp only [Int.max_def]
    split <;> split <;> split <;> omega
  simp [Builtin.max_, Builtin.max2, e]
attribute [local go_sem high] run_min3 run_max3
theorem tmod_nat {x : Int} {n : Nat} (hx : 0 ≤ x) (hn : 0 < n) : ∃ a : Nat, Int.tmod x n = (a : Int) ∧ a < n := by
  refine ⟨(x % n).toNat, ?_, ?_⟩
  · rw [Int.tmod_eq_emod_of_nonneg hx]
    have := Int.emod_nonneg x (show (n : Int) ≠ 0 by omega)
    omega
  · have := Int.emod_lt_of_pos x (show (0 : Int) < n by omega)
    have := Int.emod_nonneg x (show (n : Int) ≠ 0 by omega)
    omega

set_option maxHeartbeats 4000000 in
set_option maxRecDepth 100000 in
theorem measureGrows_core {A : Option Addr} {n c : Nat} {l : List It} (hc : n ≤ c) (hm : c ≤ maxLen) (x0 x1 x2 : Int) (g0 : 0 ≤ x0 ∧ x0 ≤ 255) (g1 : 0 ≤ x1 ∧ x1 ≤ 255) (g2 : 0 ≤ x2 ∧ x2 ≤ 255) {w : World} (h : Sl w w.heap.size 6 A n (encs l)) :
    Calls Try.prog 7 #[.slice A n c, .agg #[.int .u8 x0, .int .u8 x1, .int .u8 x2]] w (Ret w (.bool true)) := by
  have hl := its_len h
  go_enter Try.func7, Try.ntmps7
  go_wp2_with fail
  have h1 := (h.below ((Below.refl _ w).alloc (Nat.le_refl _) (.cells #[.int .u8 x0, .int .u8 x1, .int .u8 x2] 49)))
  refine (fair_any (by omega) h1).mono ?_
  rintro e w' ⟨⟨t, rfl, ht⟩, rfl⟩
  have fin : ∀ W, Below w.heap.size w W → W.heap.size ≥ w.heap.size := fun W h => h.size
  cases t
  · go_wp2_with fail
    refine (wakes16_any _).mono ?_
    rintro e w1 ⟨rfl, hb⟩
    go_wp2
    go_ret
    exact Ret.mk rfl (((Below.refl _ w).alloc (Nat.le_refl _) _).trans (hb.mono (by simp)))
  · have h700 : n ≤ 700 := ht rfl
    clear ht
    by_cases hn0 : n = 0
    · have hn1 : ((n : Int) == 0) = true := by rw [hn0]; rfl
      go_wp2_with fail
      refine (wakes16_any _).mono ?_
      rintro e w1 ⟨rfl, hb⟩
      go_wp2
      go_ret
      exact Ret.mk rfl (((Below.refl _ w).alloc (Nat.le_refl _) _).trans (hb.mono (by simp)))
    · have hn1 : ((n : Int) == 0) = false := by simpa using hn0
      have hn2 : (n : Int) ≠ 0 := by omega
      have v0 : IntKind.i64.wrap x0 = x0 := wrap_small _ (by omega) (by omega)
      have v1 : IntKind.i64.wrap x1 = x1 := wrap_small _ (by omega) (by omega)
      have v2 : IntKind.i64.wrap x2 = x2 := wrap_small _ (by omega) (by omega)
      obtain ⟨a, ea, la⟩ := tmod_nat (x := x0) (n := n) g0.1 (by omega)
      obtain ⟨b, eb, lb⟩ := tmod_nat (x := x1) (n := n) g1.1 (by omega)
      obtain ⟨d, ed, ld⟩ := tmod_nat (x := x2) (n := n) g2.1 (by omega)
      go_wp2_with fail
      go_quiet (fail)
      generalize hW : World.drewN _ _ = W
      have hB : Below w.heap.size w W := by rw [← hW]; exact bDrewN ((Below.refl _ w).alloc (Nat.le_refl _) _) _
      clear hW
      have hz := hB.size
      have hW := h.below hB
      have hWs := hW.mono hz
      obtain ⟨p, q, r, ep, eq, er, l1, l2, l3⟩ : ∃ p q r : Nat, min (min (a : Int) b) d = (p : Int) ∧ max (min (a : Int) b) (min (max (a : Int) b) d) = (q : Int) ∧ max (max (a : Int) b) d = (r : Int) ∧ p ≤ q ∧ q ≤ r ∧ r < n :=
        ⟨min (min a b) d, max (min a b) (min (max a b) d), max (max a b) d, by omega, by omega, by omega, by omega, by omega, by omega⟩
      clear ea eb ed
      obtain ⟨xb, hxb⟩ := get_some (l := l) (k := q) (by omega)
      obtain ⟨xc, hxc⟩ := get_some (l := l) (k := r) (by omega)
      obtain ⟨b', o, rfl, hb, -⟩ := its_cells h hxb
      obtain ⟨-, c0, -⟩ := its_at hW hxb
      obtain ⟨-, d0, -⟩ := its_at hW hxc
      have q1 : (q : Int) < n := by omega
      have r1 : (r : Int) < n := by omega
      have wk : ∀ W, Below w.heap.size w W → Calls Try.prog 21 #[] W (fun e w' => e = .returned (.bool true) ∧ Below w.heap.size w w') := fun W hB => (wakes16_any W).mono fun e w' ⟨h1, h2⟩ => ⟨h1, hB.trans (h2.mono hB.size)⟩
      by_cases kb : xb.kind = 3
      · rw [kb] at c0
        go_wp2_with fail
        refine (wk W hB).mono ?_
        rintro e w1 ⟨rfl, hb⟩
        go_wp2
        go_ret
        exact Ret.mk rfl hb
      · by_cases kc : xc.kind = 3
        · rw [kc] at d0
          have kb' : (xb.kind == 3) = false := by simpa using kb
          go_wp2_with fail
          refine (wk W hB).mono ?_
          rintro e w1 ⟨rfl, hb⟩
          go_wp2
          go_ret
          exact Ret.mk rfl hb
        · have kb' : (xb.kind == 3) = false := by simpa using kb
          have kc' : (xc.kind == 3) = false := by simpa using kc
          obtain ⟨f1, f2, f3, f4, f5, f6, f7, f8, f9⟩ := line_grows l1 l2 (by omega) hxb hxc kb kc
          have e1 := fun (W : World) hW => line_any (A := some ⟨b', o, none⟩) (n := n) (c := c) (l := l) (w := W) p q (by omega) hW
          have e2 := fun (W : World) hW => line_any (A := some ⟨b', o, none⟩) (n := n) (c := c) (l := l) (w := W) p r (by omega) hW
          have e3 := fun (W : World) hW => line_any (A := some ⟨b', o, none⟩) (n := n) (c := c) (l := l) (w := W) q r (by omega) hW
          have e4 := fun (W : World) hW => line_any (A := some ⟨b', o, none⟩) (n := n) (c := c) (l := l) (w := W) r q (by omega) hW
          rw [f9] at e4
          have hbw : (line l p r).w ≤ 10000 * (n + 1) ∧ (line l p r).y ≤ 10000 * (n + 1) := by
            have := of_bd l (Nat.le_of_eq hl) (fst l p) (toAt l.length r)
            have := penW_bd l (toAt l.length r)
            simp only [Sm.of] at *
            unfold line lineAt
            split <;> simp only [] <;> omega
          generalize line l p q = S1 at *
          generalize line l p r = S2 at *
          generalize line l q r = S3 at *
          obtain ⟨a1, a2, a3⟩ := S1
          obtain ⟨b1, b2, b3⟩ := S2
          obtain ⟨c1, c2, c3⟩ := S3
          simp only [Sm.cells] at *
          have E := Lib.hid (And.intro e1 (And.intro e2 (And.intro e3 e4)))
          clear e1 e2 e3 e4 kb kc fin
          go_wp2_with fail
          refine (E.out.1 _ hWs).mono ?_
          rintro e w1 ⟨rfl, hb1⟩
          have hs1 := hWs.next hb1
          have hB1 := hB.trans (hb1.mono hz)
          have hz1 := hb1.size
          go_wp2_with fail
          refine (E.out.2.1 _ hs1).mono ?_
          rintro e w2 ⟨rfl, hb2⟩
          have hs2 := hs1.next hb2
          have hB2 := hB1.trans (hb2.mono (by omega))
          have hz2 := hb2.size
          go_wp2_with fail
          refine (E.out.2.2.1 _ hs2).mono ?_
          rintro e w3 ⟨rfl, hb3⟩
          have hs3 := hs2.next hb3
          have hB3 := hB2.trans (hb3.mono (by omega))
          have hz3 := hb3.size
          clear hWs hs1 hs2 hb1 hb2 hb3 hB hB1 hB2 hW h1 h
          have u1 : a1 ≤ b1 := by omega
          have u2 : a2 ≤ b2 := by omega
          have u3 : a3 ≤ b3 := by omega
          have u4 : c1 ≤ b1 := by omega
          have u5 : c2 ≤ b2 := by omega
          have v3 : IntKind.i64.wrap (a1 + c1) = a1 + c1 := wrap_small _ (by omega) (by omega)
          have v4 : IntKind.i64.wrap (a2 + c2) = a2 + c2 := wrap_small _ (by omega) (by omega)
          go_wp2_with fail
          have hb4 : Below w3.heap.size w3 (((w3.alloc (.cells #[.int .i64 a1, .int .i64 a2, .int .i64 a3] 39)).alloc (.cells #[.int .i64 b1, .int .i64 b2, .int .i64 b3] 39)).alloc (.cells #[.int .i64 c1, .int .i64 c2, .int .i64 c3] 39)) :=
            (((Below.refl _ _).alloc (Nat.le_refl _) _).alloc (by simp) _).alloc (by simp <;> omega) _
          refine (E.out.2.2.2 _ (hs3.next hb4)).mono ?_
          rintro e w5 ⟨rfl, hb5⟩
          have hB5 := (hB3.trans (hb4.mono (by omega))).trans (hb5.mono (by have := hb4.size; omega))
          go_wp2_with fail
          refine (wk w5 hB5).mono ?_
          rintro e w6 ⟨rfl, hb⟩
          go_wp2
          go_ret
          exact Ret.mk rfl hb

theorem three {α : Type} {l : List α} (h : l.length = 3) : ∃ a b c, l = [a, b, c] := by
  match l, h with
  | [a, b, c], _ => exact ⟨a, b, c, rfl⟩
set_option maxRecDepth 100000 in
theorem measureGrows_walk {H : Type} {enc : TypeId × Value → H} {W : World} {base : Nat} {v0 v1 : Value} {d0 d1 : DataW H} {p0 p1 : List MemPlace}
    (k0 : Value.okWide Try.prog W .any base 36 v0) (h0 : DataW.Trod enc Try.prog W 0 (fun _ => true) true 36 v0 d0 p0)
    (k1 : Value.okWide Try.prog W .any base 49 v1) (h1 : DataW.Trod enc Try.prog W 0 (fun _ => true) true 49 v1 d1 p1)
    : Calls Try.prog 7 #[v0, v1] W fun e W' => e = .returned (.bool true) ∧ Below W.heap.size W W' := by
  obtain ⟨A, n, c, l, rfl, hl, hn, hc, -, hsl⟩ := open_items k0 h0
  obtain ⟨xs, hx, rfl, hw⟩ := open_ints_arr Try.underlying49 Try.underlying5 (by kernel_rfl) (by kernel_rfl) k1 h1
  obtain ⟨x0, x1, x2, rfl⟩ := three hx
  exact measureGrows_core hn hc x0 x1 x2 (wf_u8 (hw _ (by simp))) (wf_u8 (hw _ (by simp))) (wf_u8 (hw _ (by simp))) hsl
end Go.Proofs.Ytaifbbmobhfjcaa
