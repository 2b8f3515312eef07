/- The walk over ObjectKinds. -/
import Derived.Test.YthmjkgpfnpdddaaObjWakes
namespace Go.Proofs.Ythmjkgpfnpdddaa
set_option linter.unusedSimpArgs false
set_option linter.unusedVariables false
open Go.RowKit Go.ChangeShapes Go.WideShapes Go.Sort

theorem big_kinds {a b : Int} {A : Option Addr} {n c : Nat} (w : World) (h : 1000 < n) : Calls Try.prog 7 #[.int .i64 a, .int .i64 b, .slice A n c] w (Ret w (.bool true)) := by
  go_enter Try.func7, Try.ntmps7
  go_wp2_with (first
    | (go_at_call 13; refine Calls.mono (wakes03_any _) ?_; rintro e W3 ⟨rfl, hb3⟩)
    | fail)
  go_ret
  exact Ret.mk rfl hb3
theorem kind_ways (a : Int) {n : Nat} (hn : n ≤ 1000) : (a < 1 ∧ frameE a n = 1) ∨ (1 ≤ a ∧ 6 < a ∧ frameE a n = 1) ∨ (1 ≤ a ∧ a ≤ 6 ∧ frameE a n = 0) := by
  have hw : (a < 1) ∨ (1 ≤ a ∧ 6 < a) ∨ (1 ≤ a ∧ a ≤ 6) := by omega
  rcases hw with h | ⟨h, h2⟩ | ⟨h, h2⟩
  · exact .inl ⟨h, by unfold frameE obOk; rw [decide_eq_false (by omega)]; rfl⟩
  · exact .inr (.inl ⟨h, h2, by unfold frameE obOk; rw [decide_eq_false (by omega)]; rfl⟩)
  · exact .inr (.inr ⟨h, h2, by unfold frameE obOk; rw [decide_eq_true (by omega)]; rfl⟩)
set_option maxHeartbeats 16000000 in
set_option maxRecDepth 100000 in
theorem kinds_core {a b : Int} {A : Option Addr} {n c : Nat} {body : List UInt8} (w : World) (hs : Sl w w.heap.size 1 A n (bvs body)) (hl : body.length = n) (hn : n ≤ 1000) :
    Calls Try.prog 7 #[.int .i64 a, .int .i64 b, .slice A n c] w (Ret w (.bool true)) := by
  have hfa := frame_any (kind := a) (c := c) hl w hs (Nat.le_refl _)
  have hfb := fun W (h : Below w.heap.size w W) => frame_any (kind := b) (c := c) hl W (hs.next h) (Nat.le_refl _)
  have wa := kind_ways a hn
  have wb := kind_ways b hn
  have hab : 1 ≤ a ∧ a ≤ 6 → 1 ≤ b ∧ b ≤ 6 → (frameB a body = frameB b body ↔ a = b) := fun h k => frame_kinds (obOk_iff.2 ⟨h.1, h.2, by omega⟩) (obOk_iff.2 ⟨k.1, k.2, by omega⟩)
  have all1 := frame_all a body
  have all2 := frame_all b body
  have l1 := frame_len8 a body
  obtain ⟨ea, hea⟩ : ∃ q, frameE a n = q := ⟨_, rfl⟩
  obtain ⟨eb, heb⟩ : ∃ q, frameE b n = q := ⟨_, rfl⟩
  obtain ⟨fa, hfa'⟩ : ∃ q, frameB a body = q := ⟨_, rfl⟩
  obtain ⟨fb, hfb'⟩ : ∃ q, frameB b body = q := ⟨_, rfl⟩
  rw [hea, hfa'] at hfa
  simp only [heb, hfb'] at hfb
  rw [hea] at wa
  rw [heb] at wb
  rw [hfa', hfb'] at hab
  rw [hfa'] at all1 l1
  rw [hfb'] at all2
  have HW := Lib.hid (And.intro wa (And.intro wb (And.intro hab (And.intro all1 (And.intro all2 l1)))))
  clear hea heb hfa' hfb' wa wb hab all1 all2 l1
  go_enter Try.func7, Try.ntmps7
  go_wp2_with fail
  refine Calls.mono hfa ?_
  rintro e W1 ⟨A7, n7, c7, rfl, hn7, hnc7, hcm7, hs7, hb1⟩
  clear hfa
  have HB1 := Lib.hid (And.intro hn7 (And.intro hs7 hb1))
  have hfb' := hfb W1 hb1
  clear hn7 hs7 hb1 hfb
  go_wp2_with fail
  refine Calls.mono hfb' ?_
  rintro e W2 ⟨A9, n9, c9, rfl, hn9, hnc9, hcm9, hs9, hb2⟩
  clear hfb'
  obtain ⟨hn7, hs7, hb1⟩ := HB1.out
  obtain ⟨wa, wb, hab, all1, all2, l1⟩ := HW.out
  have hB2 := bNext hb1 hb2
  have hq := keepb_any W2 (BAt.mk (w := W2) (B := W2.heap.size) (c := c7) all1 hn7.symm (hs7.next hb2) hnc7) (BAt.mk (w := W2) (c := c9) all2 hn9.symm hs9 hnc9) (Nat.le_refl _) (Nat.le_refl _) (by omega)
  have HB := Lib.hid hB2
  clear HW HB1 hn7 hs7 hb1 hn9 hs9 hb2 all1 all2 l1 hB2 hs hl
  rcases wa with ⟨a1, rfl⟩ | ⟨a1, a2, rfl⟩ | ⟨a1, a2, rfl⟩
  case inr.inr =>
    rcases wb with ⟨b1, rfl⟩ | ⟨b1, b2, rfl⟩ | ⟨b1, b2, rfl⟩
    case inr.inr =>
      have hab' := hab ⟨a1, a2⟩ ⟨b1, b2⟩
      clear hab
      by_cases hx : a = b
      · rw [decide_eq_true (hab'.2 hx)] at hq
        subst hx
        clear hab'
        go_wp2_with (first
          | (go_at_call 18; (with_reducible refine Calls.mono hq ?_); clear hq; rintro e W3 ⟨rfl, hb3⟩)
          | (go_at_call 13; refine Calls.mono (wakes03_any _) ?_; rintro e W4 ⟨rfl, hb4⟩)
          | fail)
        go_ret
        exact Ret.mk rfl (bNext (bNext HB.out hb3) hb4)
      · rw [decide_eq_false (fun h => hx (hab'.1 h))] at hq
        have hx' : (a == b) = false := by simpa using hx
        clear hab'
        go_wp2_with (first
          | (go_at_call 18; (with_reducible refine Calls.mono hq ?_); clear hq; rintro e W3 ⟨rfl, hb3⟩)
          | (go_at_call 13; refine Calls.mono (wakes03_any _) ?_; rintro e W4 ⟨rfl, hb4⟩)
          | fail)
        go_ret
        exact Ret.mk rfl (bNext (bNext HB.out hb3) hb4)
    all_goals
      clear hab hq
      go_wp2_with (first
        | (go_at_call 13; refine Calls.mono (wakes03_any _) ?_; rintro e W4 ⟨rfl, hb4⟩)
        | fail)
      go_ret
      exact Ret.mk rfl (bNext HB.out hb4)
  all_goals
    clear hab hq
    rcases wb with ⟨b1, rfl⟩ | ⟨b1, b2, rfl⟩ | ⟨b1, b2, rfl⟩
    all_goals
      go_wp2_with (first
        | (go_at_call 13; refine Calls.mono (wakes03_any _) ?_; rintro e W4 ⟨rfl, hb4⟩)
        | fail)
      go_ret
      exact Ret.mk rfl (bNext HB.out hb4)
set_option maxRecDepth 100000 in
theorem objectKinds_walk {H : Type} {enc : TypeId × Value → H} {W : World} {base : Nat} {v0 v1 v2 : Value} {d0 d1 d2 : DataW H} {p0 p1 p2 : List MemPlace}
    (k0 : Value.okWide Try.prog W .any base 3 v0) (h0 : DataW.Trod enc Try.prog W 0 (fun _ => true) true 3 v0 d0 p0)
    (k1 : Value.okWide Try.prog W .any base 3 v1) (h1 : DataW.Trod enc Try.prog W 0 (fun _ => true) true 3 v1 d1 p1)
    (k2 : Value.okWide Try.prog W .any base 22 v2) (h2 : DataW.Trod enc Try.prog W 0 (fun _ => true) true 22 v2 d2 p2)
    : Calls Try.prog 7 #[v0, v1, v2] W fun e W' => e = .returned (.bool true) ∧ Below W.heap.size W W' := by
  obtain ⟨za, rfl, _, _, _⟩ := open_int Try.underlying3 k0 h0
  obtain ⟨zb, rfl, _, _, _⟩ := open_int Try.underlying3 k1 h1
  obtain ⟨A0, n0, c0, b, rfl, hl, hn0, hc0, -, hsl⟩ := open_bytes_sl Try.underlying22 Try.underlying5 (by kernel_rfl) k2 h2
  by_cases h : 1000 < n0
  · exact big_kinds W h
  · exact kinds_core W hsl hl (by omega)
end Go.Proofs.Ythmjkgpfnpdddaa
