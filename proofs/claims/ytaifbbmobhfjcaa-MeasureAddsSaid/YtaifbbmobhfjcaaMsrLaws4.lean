/- The statements of layer 16: MeasureAdds. -/
import Derived.Test.YtaifbbmobhfjcaaMsrLaws
namespace Go.Proofs.Ytaifbbmobhfjcaa
set_option linter.unusedSimpArgs false
set_option linter.unusedVariables false
open Go.RowKit Go.ChangeShapes Go.WideShapes

theorem line_bd (l : List It) (a b : Int) {m : Int} (hm : (l.length : Int) ≤ m) : 0 ≤ (line l a b).w ∧ (line l a b).w ≤ 10000 * m + 10000 ∧ 0 ≤ (line l a b).y ∧ (line l a b).y ≤ 10000 * m ∧ 0 ≤ (line l a b).z ∧ (line l a b).z ≤ 10000 * m := by
  have h1 := of_bd l (Nat.le_refl _) (fst l a) (toAt l.length b)
  have h2 := penW_bd l (toAt l.length b)
  simp only [Sm.of] at h1
  unfold line lineAt
  split <;> simp only [] <;> omega
theorem encs_snoc (L : List It) (x : It) : encs (L ++ [x]) = encs L ++ x.enc := by simp [encs, List.flatMap_append]
theorem tmod_nat' {x m : Int} (hx : 0 ≤ x) (hm : 0 < m) : ∃ a : Nat, Int.tmod x m = (a : Int) ∧ (a : Int) < m := by
  refine ⟨(x % m).toNat, ?_, ?_⟩
  · rw [Int.tmod_eq_emod_of_nonneg hx]
    have := Int.emod_nonneg x (show m ≠ 0 by omega)
    omega
  · have := Int.emod_lt_of_pos x hm
    have := Int.emod_nonneg x (show m ≠ 0 by omega)
    omega

set_option maxHeartbeats 4000000 in
set_option maxRecDepth 100000 in
theorem measureAdds_core {A : Option Addr} {n c : Nat} {ws : List UInt8} (hc : n ≤ c) (hm : c ≤ maxLen) (x : Int) (hx : 0 ≤ x ∧ x ≤ 255) {w : World} (h : Sl w w.heap.size 1 A n (bvs ws)) :
    Calls Try.prog 9 #[.slice A n c, .int .u8 x] w (Ret w (.bool true)) := by
  have hl : ws.length = n := by have := h.len; rw [bvs_len] at this; omega
  by_cases h2 : n < 2
  · have h2' : (n : Int) < 2 := by omega
    go_enter Try.func9, Try.ntmps9
    go_wp2_with fail
    refine (wakes16_any _).mono ?_
    rintro e w1 ⟨rfl, hb⟩
    go_wp2
    go_ret
    exact Ret.mk rfl hb
  by_cases h60 : 60 < n
  · have h2' : ¬ (n : Int) < 2 := by omega
    have h60' : (60 : Int) < n := by omega
    go_enter Try.func9, Try.ntmps9
    go_wp2_with fail
    refine (wakes16_any _).mono ?_
    rintro e w1 ⟨rfl, hb⟩
    go_wp2
    go_ret
    exact Ret.mk rfl hb
  obtain ⟨b, o, rfl, hb, hr⟩ := h.at_ (by omega)
  have hD : ∀ k wd W, ws[k]? = some wd → Below w.heap.size w W → W.cell? ⟨b, o + k, none⟩ = some (.int .u8 (wd.toNat : Int)) := fun k wd W h1 h2 =>
    (h2.cell (p := ⟨b, o + k, none⟩) hb).trans (hr k _ (by simp [bvs, h1, bv]))
  have HD := Lib.hid hD
  clear hD hr
  have h2' : ¬ (n : Int) < 2 := by omega
  have h60' : ¬ (60 : Int) < n := by omega
  go_enter Try.func9, Try.ntmps9
  go_wp2
  go_loopw [5, 6, 7] (fun v s i wr => ∃ (k : Nat) (S : Int) (L : List It), i = .int .i64 k ∧ s = .int .i64 S ∧ k ≤ n ∧ Laid L k S ∧ 0 ≤ S ∧ S ≤ 259 * k ∧ wr.ownsRow w.heap.size 51 6 v L.length (encs L) ∧ Below w.heap.size w wr) (fun _ _ i _ => n - (intOf i).toNat)
  case atStart => exact ⟨0, 0, [], rfl, rfl, by omega, Laid.nil, by omega, by omega, World.ownsRow_nil _ _ _ _, Below.refl _ _⟩
  case round =>
    obtain ⟨k, S, L, rfl, rfl, hk, hL, hS0, hS1, hown, hbr⟩ := hrel
    have hzr := hbr.size
    have hlen : L.length ≤ 120 := by have := hL.len; omega
    by_cases hlt : k < n
    · obtain ⟨wd, hwd⟩ := get_some (l := ws) (k := k) (by omega)
      obtain ⟨z, hz⟩ : ∃ z : Int, (wd.toNat : Int) = z := ⟨_, rfl⟩
      have z0 : 0 ≤ z := by omega
      have z1 : z ≤ 255 := by have := wd.toNat_lt; omega
      have q0 := HD.out k wd wr hwd hbr
      have hD := Lib.hid (fun W (hW : Below w.heap.size w W) => (HD.out k wd W hwd hW).trans (by rw [hz]))
      rw [hz] at q0
      clear hz
      have zw : IntKind.i64.wrap z = z := wrap_small _ (by omega) (by omega)
      have hbl : b < wr.heap.size := by omega
      by_cases hk0 : k = 0
      · have hk0' : ¬ (0 : Int) < k := by omega
        have HK := Lib.hid hk0
        clear hk0
        go_wp2_with (at_builtin; refine wpList_app _ rfl (.tmp 35) (.tmp 42) 36 rfl Try.underlying36 elemItem rfl (hown.alloc _) rfl (Sl.new (n := 1) (heap_alloc_new _ _) rfl) (by simp [Value.oneCell']) (by simp only [maxLen]; omega) (by omega) (by simp; omega) ?_; intro A4 c4 w4 hown4 hg4 hb4 hat4; have q4 := hD.out w4 ((hbr.alloc (by omega) _).trans hb4))
        go_roundw
        case rel =>
          refine ⟨k + 1, S + z, L ++ [⟨1, z, 0, 0, 0, ⟨#[120]⟩⟩], by go_num, by go_num, by omega, ?_, by omega, by omega, ?_, (hbr.alloc (by omega) _).trans hb4⟩
          · obtain rfl := HK.out
            obtain rfl : L = [] := List.eq_nil_of_length_eq_zero hL.len
            obtain rfl : S = 0 := hL.w.symm
            have := Laid.first (x := ⟨1, z, 0, 0, 0, ⟨#[120]⟩⟩) rfl rfl rfl z0 z1
            simpa using this
          · rw [encs_snoc, List.length_append]; exact hown4
        case measure => simp [intOf]; omega
      · have hk0' : (0 : Int) < k := by omega
        go_wp2_with (first
          | (at_builtin; refine wpList_app _ rfl (.tmp 29) (.tmp 31) 36 rfl Try.underlying36 elemItem rfl (hown.alloc _) rfl (Sl.new (n := 1) (heap_alloc_new _ _) rfl) (by simp [Value.oneCell']) (by simp only [maxLen]; omega) (by omega) (by simp; omega) ?_; intro A3 c3 w3 hown3 hg3 hb3 hat3; have q3 := hD.out w3 ((hbr.alloc (by omega) _).trans hb3); have hz3 := ((hbr.alloc (by omega) _).trans hb3).size)
          | (at_builtin; refine wpList_app _ rfl (.tmp 35) (.tmp 42) 36 rfl Try.underlying36 elemItem rfl (hown3.alloc _) rfl (Sl.new (n := 1) (heap_alloc_new _ _) rfl) (by simp [Value.oneCell']) (by simp only [maxLen]; omega) (by omega) (by simp; omega) ?_; intro A4 c4 w4 hown4 hg4 hb4 hat4; have q4 := hD.out w4 ((((hbr.alloc (by omega) _).trans hb3).alloc (by omega) _).trans hb4)))
        go_roundw
        case rel =>
          refine ⟨k + 1, S + 4 + z, L ++ [spc] ++ [⟨1, z, 0, 0, 0, ⟨#[120]⟩⟩], by go_num, by go_num, by omega, ?_, by omega, by omega, ?_, (((hbr.alloc (by omega) _).trans hb3).alloc (by omega) _).trans hb4⟩
          · exact Laid.more hL (by omega) (x := ⟨1, z, 0, 0, 0, ⟨#[120]⟩⟩) rfl rfl rfl z0 z1
          · rw [encs_snoc, encs_snoc, List.length_append, List.length_append]; exact hown4
        case measure => simp [intOf]; omega
    · obtain rfl : k = n := by omega
      obtain ⟨A3, c3, rfl, hcp⟩ := own_form hown
      have hs := Sl.of_own hown
      obtain ⟨j, ej, hj⟩ := tmod_nat' (x := x) (m := (k : Int) - 1) hx.1 (by omega)
      obtain ⟨f1, f2, f3, f4⟩ := laid_lines hL (j := j) (by omega)
      have v0 : IntKind.i64.wrap x = x := wrap_small _ hx.1 (by omega)
      have K1 : ((2 * j + 1 : Nat) : Int) = 1 + 2 * (j : Int) := by omega
      have K2 : ((k - 1 : Nat) : Int) = (k : Int) - 1 := by omega
      rw [K1] at f2 f3 f4
      rw [K2] at f1 f3 f4
      have b1 := line_bd L (-1) (1 + 2 * j) (m := 120) (by omega)
      have b2 := line_bd L (1 + 2 * j) L.length (m := 120) (by omega)
      have e1 := fun (W : World) hW => line_any (A := A3) (n := L.length) (c := c3) (l := L) (w := W) (-1) L.length (by omega) hW
      have e2 := fun (W : World) hW => line_any (A := A3) (n := L.length) (c := c3) (l := L) (w := W) (-1) (1 + 2 * j) (by omega) hW
      have e3 := fun (W : World) hW => line_any (A := A3) (n := L.length) (c := c3) (l := L) (w := W) (1 + 2 * j) L.length (by omega) hW
      rw [f1] at e1
      generalize line L (-1) (1 + 2 * j) = S2 at *
      generalize line L (1 + 2 * j) L.length = S3 at *
      obtain ⟨a1, a2, a3⟩ := S2
      obtain ⟨c1, c2, c3'⟩ := S3
      simp only [Sm.cells] at *
      have E := Lib.hid (And.intro e1 (And.intro e2 e3))
      have F := Lib.hid (And.intro f2 (And.intro f3 f4))
      have k2 : (2 : Int) ≤ k := by omega
      have k60 : (k : Int) ≤ 60 := by omega
      have kk : ¬ ((k : Int) - 1 = 0) := by omega
      have j0 : (0 : Int) ≤ j := by omega
      clear e1 e2 e3 f1 f2 f3 f4 K1 K2 hL hown
      go_wp2_with fail
      refine (E.out.1 _ hs).mono ?_
      rintro e w1 ⟨rfl, hb1⟩
      have hz1 := hb1.size
      have hs1 := hs.next hb1
      have hB1 := hbr.trans (hb1.mono hzr)
      clear hb1 hs
      go_wp2_with fail
      generalize hW : w1.alloc _ = W1
      have b8 : W1.heap[w1.heap.size]? = some (.cells #[.int .i64 S, .int .i64 (2 * ((k : Int) - 1)), .int .i64 ((k : Int) - 1)] 39) := by rw [← hW]; exact heap_alloc_new _ _
      have hbw : Below w1.heap.size w1 W1 := by rw [← hW]; exact (by repeat (first | (with_reducible exact Below.refl _ _) | (with_reducible refine bDrewN ?_ _) | (with_reducible refine Below.drew ?_) | (with_reducible refine Below.alloc ?_ ?_ _) | (with_reducible refine Below.setCell ?_ ?_ _) | (with_reducible assumption) | go_size))
      have hzw : w1.heap.size < W1.heap.size := by rw [← hW]; simp
      clear hW
      have hsw := hs1.next hbw
      have hBw := hB1.trans (hbw.mono (by omega))
      refine (E.out.2.1 _ hsw).mono ?_
      rintro e w2 ⟨rfl, hb2⟩
      have hz2 := hb2.size
      have hs2 := hsw.next hb2
      have hB2 := hBw.trans (hb2.mono (by omega))
      have b82 := bBlk hb2 hzw b8
      go_wp2_with fail
      refine (E.out.2.2 _ hs2).mono ?_
      rintro e w3 ⟨rfl, hb3⟩
      have hz3 := hb3.size
      have hB3 := hB2.trans (hb3.mono (by omega))
      have b83 := bBlk hb3 (by omega) b82
      have t0 := blk_cell b83 (k := 0) rfl
      have t1 := blk_cell b83 (k := 1) rfl
      have t2 := blk_cell b83 (k := 2) rfl
      have f2 := F.out.1
      have f3 := F.out.2.1
      have f4 := F.out.2.2
      have g3 : w1.heap.size < w3.heap.size := by omega
      clear b8 b82 b83 hs1 hsw hs2 hb2 hb3 hbw hB1 hBw hB2
      go_wp2_with fail
      have hB4 : Below w.heap.size w (World.alloc (World.alloc w3 (.cells #[.int .i64 a1, .int .i64 a2, .int .i64 a3] 39)) (.cells #[.int .i64 c1, .int .i64 c2, .int .i64 c3'] 39)) := (hB3.alloc (by omega) _).alloc (by simp <;> omega) _
      refine (wakes16_any _).mono ?_
      rintro e w5 ⟨rfl, hb5⟩
      go_wp2
      go_ret
      exact Ret.mk rfl (hB4.trans (hb5.mono hB4.size))

set_option maxRecDepth 100000 in
theorem measureAdds_walk {H : Type} {enc : TypeId × Value → H} {W : World} {base : Nat} {v0 v1 : Value} {d0 d1 : DataW H} {p0 p1 : List MemPlace}
    (k0 : Value.okWide Try.prog W .any base 53 v0) (h0 : DataW.Trod enc Try.prog W 0 (fun _ => true) true 53 v0 d0 p0)
    (k1 : Value.okWide Try.prog W .any base 5 v1) (h1 : DataW.Trod enc Try.prog W 0 (fun _ => true) true 5 v1 d1 p1)
    : Calls Try.prog 9 #[v0, v1] W fun e W' => e = .returned (.bool true) ∧ Below W.heap.size W W' := by
  obtain ⟨A, n, c, l, rfl, hl, hn, hc, -, hsl⟩ := open_bytes_sl Try.underlying53 Try.underlying5 (by kernel_rfl) k0 h0
  obtain ⟨x, rfl, -, -, w1⟩ := open_int Try.underlying5 k1 h1
  exact measureAdds_core hn hc x (wf_u8 w1) hsl
end Go.Proofs.Ytaifbbmobhfjcaa
