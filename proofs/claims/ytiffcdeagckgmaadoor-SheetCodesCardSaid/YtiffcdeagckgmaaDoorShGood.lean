/- sheet.Good; slices.Equal of bytes. -/
import Derived.Test.YtiffcdeagckgmaaDoorShEnc
import Derived.Test.YtiffcdeagckgmaaDoorKeep
namespace Go.Proofs.YtiffcdeagckgmaaDoor
set_option linter.unusedSimpArgs false
set_option linter.unusedVariables false
open Go.RowKit Go.ChangeShapes Go.WideShapes Go.Sort Go.Deep
open Classical in
set_option maxRecDepth 100000 in
theorem good_any {A : Option Addr} {n c : Nat} {num : Int} {l : List (LN × List PC)} (hnum : -9223372036854775808 ≤ num ∧ num ≤ 9223372036854775807) (w : World) (hl : RnAt w w.heap.size A n c l) (hc : c ≤ maxLen) (hT : Tabs w) :
    Calls Tryd.prog 15 #[.agg #[.int .i64 num, .slice A n c]] w (Ret w (.bool (decide (GoodP num l)))) := by
  have hcall : Calls Tryd.prog 10 #[.agg #[.int .i64 num, .slice A n c]] (w.alloc (.cells #[.int .i64 num, .slice A n c] 24)) (fun e w' => ∃ A' n' c', e = .returned (.tuple #[.slice A' n' c', .int .i64 (if GoodP num l then 0 else 11)]) ∧ Below w.heap.size w w') := by
    have hb : Below w.heap.size w (w.alloc (.cells #[.int .i64 num, .slice A n c] 24)) := (Below.refl _ _).alloc (Nat.le_refl _) _
    by_cases h : GoodP num l
    · refine (enc_yes hnum _ (hl.nxt hb) hc (hT.below hb) h).mono ?_
      rintro e w' ⟨A', n', c', rfl, -, -, -, -, -, h8⟩
      exact ⟨A', n', c', by rw [if_pos h], bNext hb h8⟩
    · refine (enc_not hnum _ (hl.nxt hb) hc (hT.below hb) h).mono ?_
      rintro e w' ⟨A', n', c', rfl, -, -, -, -, -, h8⟩
      exact ⟨A', n', c', by rw [if_neg h], bNext hb h8⟩
  obtain ⟨er, her⟩ : ∃ q : Int, (if GoodP num l then 0 else 11) = q := ⟨_, rfl⟩
  rw [her] at hcall
  have HC := Lib.hid hcall
  have HE := Lib.hid her
  clear hcall her hl hT
  go_enter Tryd.func15, Tryd.ntmps15
  go_wp2_with fail
  refine Calls.mono HC.out ?_
  rintro e w1 ⟨A', n', c', rfl, hb1⟩
  go_wp2_with fail
  go_ret
  refine Ret.mk (vbool ?_) hb1
  rw [← HE.out]
  by_cases h : GoodP num l
  · simp [h]
  · simp [h]
open Classical in
theorem good_yes {A : Option Addr} {n c : Nat} {num : Int} {l : List (LN × List PC)} (hnum : -9223372036854775808 ≤ num ∧ num ≤ 9223372036854775807) (w : World) (hl : RnAt w w.heap.size A n c l) (hc : c ≤ maxLen) (hT : Tabs w) (h : GoodP num l) :
    Calls Tryd.prog 15 #[.agg #[.int .i64 num, .slice A n c]] w (Ret w (.bool true)) := by
  have := good_any hnum w hl hc hT
  rwa [decide_eq_true h] at this
open Classical in
theorem good_no {A : Option Addr} {n c : Nat} {num : Int} {l : List (LN × List PC)} (hnum : -9223372036854775808 ≤ num ∧ num ≤ 9223372036854775807) (w : World) (hl : RnAt w w.heap.size A n c l) (hc : c ≤ maxLen) (hT : Tabs w) (h : ¬ GoodP num l) :
    Calls Tryd.prog 15 #[.agg #[.int .i64 num, .slice A n c]] w (Ret w (.bool false)) := by
  have := good_any hnum w hl hc hT
  rwa [decide_eq_false h] at this
set_option maxRecDepth 100000 in
set_option maxHeartbeats 4000000 in
theorem equal_any {A B : Option Addr} {n m c c' BA BB : Nat} {xs ys : List UInt8} (w : World) (h1 : Sl w BA 1 A n (bvs xs)) (h2 : Sl w BB 1 B m (bvs ys)) (hn : n ≤ 1000000) (hA : BA ≤ w.heap.size) (hB : BB ≤ w.heap.size) (hc : n ≤ c) (hc' : m ≤ c') :
    Calls Tryd.prog 24 #[.slice A n c, .slice B m c'] w (Ret w (.bool (decide (xs = ys)))) := by
  have hx : xs.length = n := by have := h1.len; rw [bvs_len] at this; omega
  have hy : ys.length = m := by have := h2.len; rw [bvs_len] at this; omega
  by_cases hnm : n = m
  · subst hnm
    have HX := Lib.hid (And.intro hx (And.intro hy (And.intro h1 h2)))
    clear hx hy h1 h2
    go_enter Tryd.func24, Tryd.ntmps24
    go_wp2_with fail
    go_loopw [5, 13] (fun s5 s13 wr => ∃ k : Nat, k ≤ n ∧ s13 = .int .i64 k ∧ Hid (xs.take k = ys.take k) ∧ Below w.heap.size w wr) (fun _ q _ => n - (intOf q).toNat)
    case atStart => exact ⟨0, by omega, rfl, Lib.hid (by simp), Below.refl _ _⟩
    case round =>
      obtain ⟨k, hk, rfl, HK, hbr⟩ := hrel
      by_cases hlt : k < n
      · have g1 : (k : Int) < n := by omega
        obtain ⟨b, o, rfl, hbB, hr1⟩ := HX.out.2.2.1.at_ (by omega)
        obtain ⟨b', o', rfl, hbB', hr2⟩ := HX.out.2.2.2.at_ (by omega)
        obtain ⟨x, hxk⟩ : ∃ x, xs[k]? = some x := ⟨_, List.getElem?_eq_getElem (by rw [HX.out.1]; exact hlt)⟩
        obtain ⟨y, hyk⟩ : ∃ x, ys[k]? = some x := ⟨_, List.getElem?_eq_getElem (by rw [HX.out.2.1]; exact hlt)⟩
        have m1 : wr.cell? ⟨b, o + k, none⟩ = some (.int .u8 (x.toNat : Int)) := (hbr.cell (p := ⟨b, o + k, none⟩) (by show b < _; omega)).trans (hr1 k _ (by simp [bvs, bv, hxk]))
        have m2 : wr.cell? ⟨b', o' + k, none⟩ = some (.int .u8 (y.toNat : Int)) := (hbr.cell (p := ⟨b', o' + k, none⟩) (by show b' < _; omega)).trans (hr2 k _ (by simp [bvs, bv, hyk]))
        have e1 : xs.take (k + 1) = xs.take k ++ [x] := by rw [List.take_add_one, hxk]; rfl
        have e2 : ys.take (k + 1) = ys.take k ++ [y] := by rw [List.take_add_one, hyk]; rfl
        have HE := Lib.hid (And.intro e1 (And.intro e2 (And.intro hxk (And.intro hyk hbr))))
        clear e1 e2 hxk hyk hbr hr1 hr2
        by_cases hxy : x = y
        · subst hxy
          go_upto_region 6 with (fail)
          go_quiet (fail)
          go_wp2_with fail
          go_roundw
          case rel => exact ⟨k + 1, by omega, by go_num, Lib.hid (by rw [HE.out.1, HE.out.2.1, HK.out]), (bDrewN HE.out.2.2.2.2 _)⟩
          case measure => simp [intOf]; omega
        · have g2 : ¬ (x.toNat : Int) = (y.toNat : Int) := fun e => hxy (UInt8.toNat_inj.1 (by omega))
          have g3 : ¬ x.toNat = y.toNat := fun e => hxy (UInt8.toNat_inj.1 e)
          have HN := Lib.hid hxy
          clear hxy
          go_upto_region 6 with (fail)
          go_quiet (fail)
          go_wp2_with fail
          go_ret
          refine Ret.mk (vbool (decide_eq_false fun e => HN.out ?_).symm) (bDrewN HE.out.2.2.2.2 _)
          have := HE.out.2.2.1
          rw [e, HE.out.2.2.2.1] at this
          cases this
          rfl
      · have hkn : k = n := by omega
        have HR := Lib.hid hbr
        clear hbr
        go_wp2_with fail
        go_ret
        refine Ret.mk (vbool (decide_eq_true ?_).symm) HR.out
        have := HK.out
        rw [hkn, List.take_of_length_le (by rw [HX.out.1]; exact Nat.le_refl _), List.take_of_length_le (by rw [HX.out.2.1]; exact Nat.le_refl _)] at this
        exact this
  · have g1 : ¬ (n : Int) = m := by omega
    have HX := Lib.hid (And.intro hx hy)
    clear hx hy h1 h2
    go_enter Tryd.func24, Tryd.ntmps24
    go_wp2_with fail
    go_ret
    refine Ret.mk (vbool (decide_eq_false fun e => hnm ?_).symm) (Below.refl _ _)
    rw [← HX.out.1, ← HX.out.2, e]
end Go.Proofs.YtiffcdeagckgmaaDoor
