/- slices.Grow of nil and slices.Concat of slices of bytes: any seat that has them. -/
import Derived.Test.YtjfkaebikmnnaaaRound
import Derived.Test.YtjfkaebikmnnaaaRow
import Derived.Test.YtjfkaebikmnnaaaProg
import Derived.Lib.AppendZeros
import Derived.Lib.SliceRun
namespace Go.Proofs.Ytjfkaebikmnnaaa
set_option linter.unusedSimpArgs false
set_option linter.unusedVariables false
open Go.RowKit

theorem elemC : Elem Try.prog 5 1 1 := elem_of (z := .int .u8 0) (by kernel_rfl) rfl (by omega)
theorem info_u8 : ∃ i, Try.prog.info? 5 = some i ∧ i.zero = some (.int .u8 0) ∧ i.size = 1 ∧ i.bytes = 1 := by
  have h : (Try.prog.info? 5).map (fun i => (i.zero, i.size, i.bytes)) = some (some (.int .u8 0), 1, 1) := by kernel_rfl
  cases hq : Try.prog.info? 5 with
  | none => rw [hq] at h; cases h
  | some i =>
    rw [hq] at h
    simp only [Option.map_some, Option.some.injEq, Prod.mk.injEq] at h
    exact ⟨i, rfl, h.1, h.2.1, h.2.2⟩

set_option maxHeartbeats 2000000 in
set_option maxRecDepth 100000 in
theorem grow_any (n : Nat) (hn : n ≤ 1000000000) (w : World) : Calls Try.prog 40 #[.slice none 0 0, .int .i64 n] w fun e w' =>
    ∃ A c, e = .returned (.slice A 0 c) ∧ w'.ownsRow w.heap.size 5 1 (.slice A 0 c) 0 [] ∧ Below w.heap.size w w' := by
  rcases Nat.eq_zero_or_pos n with rfl | h0
  · go_enter Try.func40, Try.ntmps40
    go_wp2
    go_ret
    exact ⟨_, _, rfl, World.ownsRow_nil _ _ _ _, Below.refl _ _⟩
  · obtain ⟨i, hi, hz, hs, hby⟩ := info_u8
    have hrun := fun ty => Lib.run_append_nil_zeros (P := Try.prog) w 24 3 ty 5 i _ .i64 .i64 Try.underlying24 Try.underlying3 hi hz n h0 (by omega) (by omega) (by rw [hby]; omega)
    obtain ⟨G, hG⟩ : ∃ G, grownCap w n 0 5 = G := ⟨_, rfl⟩
    have h1 := grownCap_ge w n 0 5
    have h2 := grownCap_le_maxLen w n 0 5 (by unfold maxLen; omega)
    rw [hG] at h1 h2
    simp only [hG] at hrun
    obtain ⟨W, hW⟩ : ∃ W, w.drew.alloc (.cells (Builtin.zeroCells (Value.int .u8 0).cells n ++ Builtin.zeroCells (Value.int .u8 0).cells (G - n)) 5) = W := ⟨_, rfl⟩
    simp only [hW] at hrun
    have hsz : (Builtin.zeroCells (Value.int .u8 0).cells n ++ Builtin.zeroCells (Value.int .u8 0).cells (G - n)).size = G := by
      simp [Builtin.zeroCells, Value.cells]; omega
    have hown : W.ownsRow w.heap.size 5 1 (.slice (some ⟨w.heap.size, 0, none⟩) 0 G) 0 [] := by
      rw [← hW]
      exact ⟨by simp, .inr ⟨w.heap.size, G, _, rfl, Nat.le_refl _, heap_alloc_new _ _, Nat.zero_le _, h2, by rw [hsz]; simp, by simp⟩⟩
    have hB : Below w.heap.size w W := by rw [← hW]; exact ((Below.refl _ _).drew).alloc (Nat.le_refl _) _
    have HO := Lib.hid (And.intro hown hB)
    have g1 : ¬ (n : Int) < 0 := by omega
    have g2 : (n : Int) > 0 := by omega
    have g3 : G ≤ 9223372036854775807 := by simp only [maxLen] at h2; omega
    clear hi hz hs hby hG hW hsz hown hB h2
    go_enter Try.func40, Try.ntmps40
    go_wp2_with (at_builtin; refine Lib.wpList_append_run _ rfl _ _ _ _ rfl _ _ rfl rfl _ _ (hrun _) ?_)
    go_ret
    exact ⟨_, _, rfl, HO.out.1, HO.out.2⟩

attribute [-go_sem] Builtin.append_
/-! ### Concat -/
abbrev Sls := List (Option Addr × Nat × List UInt8)
def slv (x : Option Addr × Nat × List UInt8) : Value := .slice x.1 x.2.2.length x.2.1
def allB (L : Sls) : List UInt8 := L.flatMap (·.2.2)
theorem allB_take {L : Sls} {k : Nat} {x : Option Addr × Nat × List UInt8} (h : L[k]? = some x) : allB (L.take (k + 1)) = allB (L.take k) ++ x.2.2 := by
  obtain ⟨hk, rfl⟩ := List.getElem?_eq_some_iff.1 h
  unfold allB
  rw [List.take_succ_eq_append_getElem hk, List.flatMap_append]
  simp
theorem allB_le (L : Sls) (k : Nat) : (allB (L.take k)).length ≤ (allB L).length := by
  have : allB L = allB (L.take k) ++ allB (L.drop k) := by unfold allB; rw [← List.flatMap_append, List.take_append_drop]
  rw [this, List.length_append]; omega

set_option maxHeartbeats 4000000 in
set_option maxRecDepth 100000 in
theorem concat_any (L : Sls) {A0 : Option Addr} {c0 : Nat} (w : World) (hL : Sl w w.heap.size 1 A0 L.length (L.map slv)) (hx : ∀ x ∈ L, Sl w w.heap.size 1 x.1 x.2.2.length (bvs x.2.2)) (ht : (allB L).length ≤ 1000000000) (hl : L.length ≤ 1000000000) :
    Calls Try.prog 33 #[.slice A0 L.length c0] w fun e w' =>
      ∃ A c, e = .returned (.slice A (allB L).length c) ∧ w'.ownsRow w.heap.size 5 1 (.slice A (allB L).length c) (allB L).length (bvs (allB L)) ∧ Below w.heap.size w w' := by
  have hcell : ∀ k x, L[k]? = some x → ∃ b o, A0 = some ⟨b, o, none⟩ ∧ b < w.heap.size ∧ w.cell? ⟨b, o + k, none⟩ = some (slv x) := fun k x h => by
    obtain ⟨hk, -⟩ := List.getElem?_eq_some_iff.1 h
    obtain ⟨b, o, e, hb, hr, -⟩ := hL.elem hk
    exact ⟨b, o, e, hb, hr k _ (by rw [List.getElem?_map, h]; rfl)⟩
  have HC := Lib.hid hcell
  have HX := Lib.hid hx
  clear hcell hL hx
  go_enter Try.func33, Try.ntmps33
  go_wp2_with fail
  go_loopw [3, 11] (fun sz i wr => ∃ k : Nat, i = .int .i64 k ∧ k ≤ L.length ∧ sz = .int .i64 ((allB (L.take k)).length : Nat) ∧ w = wr) (fun _ i _ => L.length - (intOf i).toNat)
  case atStart => exact ⟨0, rfl, by omega, rfl, rfl⟩
  case round =>
    obtain ⟨k, rfl, hk, rfl, rfl⟩ := hrel
    by_cases hlt : k < L.length
    · obtain ⟨x, hkx⟩ : ∃ x, L[k]? = some x := ⟨_, List.getElem?_eq_getElem hlt⟩
      obtain ⟨b, o, rfl, hb, hc⟩ := HC.out k x hkx
      have hs := allB_take hkx
      have hle := allB_le L (k + 1)
      have e2 : (allB (L.take (k + 1))).length = (allB (L.take k)).length + x.2.2.length := by rw [hs, List.length_append]
      have g1 : (k : Int) < L.length := by omega
      have g2 : ¬ (((allB (L.take k)).length : Int) + (x.2.2.length : Int) < 0) := by omega
      have E := Lib.hid e2
      unfold slv at hc
      rw [e2] at hle
      obtain ⟨n1, hn1⟩ : ∃ n, (allB (L.take k)).length = n := ⟨_, rfl⟩
      obtain ⟨n2, hn2⟩ : ∃ n, x.2.2.length = n := ⟨_, rfl⟩
      rw [hn1, hn2] at hle g2 E
      rw [hn2] at hc
      rw [hn1]
      clear hs e2 hkx hn1 hn2
      go_wp2_with fail
      go_roundw
      case rel => exact ⟨k + 1, by go_num, by omega, by rw [E.out]; go_num, by simp⟩
      case measure => simp [intOf]; omega
    · obtain rfl : k = L.length := by omega
      have hg := grow_any (allB L).length ht w
      rw [List.take_length]
      go_wp2_with fail
      refine hg.mono ?_
      rintro e w1 ⟨A, c, rfl, hown, hb1⟩
      clear hg
      go_wp2_with fail
      go_loopw [6, 27] (fun v i wr => ∃ k : Nat, i = .int .i64 k ∧ k ≤ L.length ∧ wr.ownsRow w.heap.size 5 1 v (allB (L.take k)).length (bvs (allB (L.take k))) ∧ Below w.heap.size w wr) (fun _ i _ => L.length - (intOf i).toNat)
      case atStart => exact ⟨0, rfl, by omega, hown, hb1⟩
      case round =>
        clear hown hb1
        obtain ⟨k, rfl, hk, hown, hB⟩ := hrel
        by_cases hlt : k < L.length
        · obtain ⟨x, hkx⟩ : ∃ x, L[k]? = some x := ⟨_, List.getElem?_eq_getElem hlt⟩
          obtain ⟨b, o, rfl, hb, hc⟩ := HC.out k x hkx
          have hxx := (HX.out x (List.mem_of_getElem? hkx)).below hB
          have hs := allB_take hkx
          have hle := allB_le L (k + 1)
          have e2 : (allB (L.take (k + 1))).length = (allB (L.take k)).length + x.2.2.length := by rw [hs, List.length_append]
          have g1 : (k : Int) < L.length := by omega
          have hc' : wr.cell? ⟨b, o + k, none⟩ = some (slv x) := (hB.cell (p := ⟨b, o + k, none⟩) hb).trans hc
          unfold slv at hc'
          obtain ⟨A2, c2, w2, hrun, hrow2, hg2, hat2⟩ := run_app (P := Try.prog) wr (ty := 24) (t := 24) Try.underlying24 elemC hown hxx (c := x.2.1) (oneCell_bvs _) (by simp only [maxLen]; omega) (by omega) hB.size
          have hB2 : Below w.heap.size w w2 := hB.trans ((Below.refl _ _).grown hg2 hB.size (fun j hj => own_ge hown j hj))
          rw [← bvs_append, ← hs, ← e2] at hrow2
          rw [← e2] at hrun
          have R := Lib.hid (And.intro hrow2 hB2)
          obtain ⟨A1, c1, rfl, -, -⟩ := own_form hown
          obtain ⟨n1, hn1⟩ : ∃ n, (allB (L.take k)).length = n := ⟨_, rfl⟩
          obtain ⟨n2, hn2⟩ : ∃ n, x.2.2.length = n := ⟨_, rfl⟩
          obtain ⟨n3, hn3⟩ : ∃ n, (allB (L.take (k + 1))).length = n := ⟨_, rfl⟩
          rw [hn3] at hrun R
          rw [hn2] at hrun hc'
          rw [hn1] at hrun
          rw [hn1]
          clear hs e2 hkx hn1 hn2 hle hown hxx hrow2 hB2 hg2 hat2 hc
          go_wp2_with fail
          go_roundw
          case rel => exact ⟨k + 1, by go_num, by omega, by rw [hn3]; exact R.out.1, R.out.2⟩
          case measure => simp [intOf]; omega
        · obtain rfl : k = L.length := by omega
          rw [List.take_length] at hown
          obtain ⟨A1, c1, rfl, -, -⟩ := own_form hown
          have R := Lib.hid (And.intro hown hB)
          clear hown
          go_wp2_with fail
          go_ret
          exact ⟨_, _, rfl, R.out.1, R.out.2⟩
end Go.Proofs.Ytjfkaebikmnnaaa
