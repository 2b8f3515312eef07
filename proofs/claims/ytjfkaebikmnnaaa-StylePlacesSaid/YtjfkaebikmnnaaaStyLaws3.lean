/- The statements of layer 12, StylePlaces: the walk. -/
import Derived.Test.YtjfkaebikmnnaaaStyLaws2
namespace Go.Proofs.Ytjfkaebikmnnaaa
set_option linter.unusedSimpArgs false
set_option linter.unusedVariables false
open Go.RowKit Go.ChangeShapes Go.WideShapes Go.Sort

theorem places_nib {s : Sty} (hg : s.good = true) {k : Nat} (hk : k < 5) : ∃ (p q : UInt8) (x : Int), s.enc[2 * k]? = some p ∧ s.enc[2 * k + 1]? = some q ∧ (#[Value.int .i64 s.w, .int .i64 s.h, .int .i64 s.t, .int .i64 s.c, .int .i64 s.i])[k]? = some (.int .i64 x) ∧ (p.toNat : Int) * 256 + q.toNat = x ∧ 0 ≤ x ∧ x ≤ 65535 := by
  obtain ⟨a, b, c, d, f⟩ := s
  have hb : (0 ≤ a ∧ a ≤ 65535) ∧ (0 ≤ b ∧ b ≤ 65535) ∧ (0 ≤ c ∧ c ≤ 65535) ∧ (0 ≤ d ∧ d ≤ 65535) ∧ (0 ≤ f ∧ f ≤ 65535) := by
    simp [Sty.good, btw] at hg; omega
  rw [enc_lit]
  match k, hk with
  | 0, _ => exact ⟨_, _, _, rfl, rfl, rfl, u8_two hb.1.1 hb.1.2, hb.1⟩
  | 1, _ => exact ⟨_, _, _, rfl, rfl, rfl, u8_two hb.2.1.1 hb.2.1.2, hb.2.1⟩
  | 2, _ => exact ⟨_, _, _, rfl, rfl, rfl, u8_two hb.2.2.1.1 hb.2.2.1.2, hb.2.2.1⟩
  | 3, _ => exact ⟨_, _, _, rfl, rfl, rfl, u8_two hb.2.2.2.1.1 hb.2.2.2.1.2, hb.2.2.2.1⟩
  | 4, _ => exact ⟨_, _, _, rfl, rfl, rfl, u8_two hb.2.2.2.2.1 hb.2.2.2.2.2, hb.2.2.2.2⟩

set_option maxHeartbeats 4000000 in
set_option maxRecDepth 100000 in
theorem stylePlaces_core (s : Sty) (wh v : Int) (hw : 0 ≤ wh ∧ wh ≤ 255) (hv : -9223372036854775808 ≤ v ∧ v ≤ 9223372036854775807) (w : World) :
    Calls Try.prog 5 #[s.val, .int .u8 wh, .int .i64 v] w (Ret w (.bool true)) := by
  cases hg : s.good
  · have he := enc_no s hg
    obtain ⟨a1, a2, a3, a4, a5⟩ := s
    have HE := Lib.hid he
    clear he hg
    simp only [Sty.val] at *
    go_enter Try.func5, Try.ntmps5
    go_wp2_with fail
    refine (HE.out _).mono ?_
    rintro e w1 ⟨rfl, hb1⟩
    have hz1 := hb1.size
    simp only [World.size_alloc] at hz1
    go_wp2_with fail
    refine (wakes_any _).mono ?_
    rintro e w2 ⟨rfl, hb2⟩
    go_wp2
    go_ret
    exact Ret.mk rfl (((Below.refl _ w).alloc (Nat.le_refl _) _).trans ((hb1.mono (by simp)).trans (hb2.mono (by omega))))
  · have he := enc_yes s hg
    have hnib := fun k hk => places_nib hg (k := k) hk
    unfold EncPost at he
    obtain ⟨E, hE⟩ : ∃ E, s.enc = E := ⟨_, rfl⟩
    rw [hE] at he
    simp only [hE] at hnib
    clear hE
    obtain ⟨a1, a2, a3, a4, a5⟩ := s
    have HE := Lib.hid he
    have HN := Lib.hid hnib
    have HG := Lib.hid hg
    clear he hg hnib
    simp only [Sty.val] at *
    go_enter Try.func5, Try.ntmps5
    go_wp2_with fail
    refine (HE.out _).mono ?_
    rintro e w1 ⟨A1, c1, rfl, hown1, hb1⟩
    have hs1 := Sl.of_own hown1
    obtain ⟨A1', c1', he1, hc1⟩ := own_form hown1
    injection he1 with e1 e2 e3
    subst e1 e3
    obtain ⟨g, og, rfl, hgl, hr⟩ := hs1.at_ (by omega)
    have hz1 : w.heap.size < w1.heap.size := by have := hb1.size; simp at this; omega
    have bS1 := bBlk hb1 (by simp) (heap_alloc_new w (.cells #[.int .i64 a1, .int .i64 a2, .int .i64 a3, .int .i64 a4, .int .i64 a5] 23))
    have hB1 : RowKit.Below w.heap.size w w1 := ((Below.refl _ w).alloc (Nat.le_refl _) _).trans (hb1.mono (by simp))
    have k0 := blk_cell bS1 (k := 0) rfl
    have k1 := blk_cell bS1 (k := 1) rfl
    have k2 := blk_cell bS1 (k := 2) rfl
    have k3 := blk_cell bS1 (k := 3) rfl
    have k4 := blk_cell bS1 (k := 4) rfl
    clear hb1 hown1 hs1
    go_wp2_with fail
    generalize hW2 : w1.alloc _ = W2
    have bA2 : W2.heap[w1.heap.size]? = some (.cells #[.int .i64 a1, .int .i64 a2, .int .i64 a3, .int .i64 a4, .int .i64 a5] 38) := by rw [← hW2]; exact heap_alloc_new _ _
    have hb2 : RowKit.Below w1.heap.size w1 W2 := by rw [← hW2]; exact (by repeat (first | (with_reducible exact Below.refl _ _) | (with_reducible refine bDrewN ?_ _) | (with_reducible refine Below.drew ?_) | (with_reducible refine Below.alloc ?_ ?_ _) | (with_reducible refine Below.setCell ?_ ?_ _) | (with_reducible assumption) | go_size))
    have hz2 : w1.heap.size < W2.heap.size := by rw [← hW2]; simp
    clear hW2
    have hr2 : W2.rangeAt g og (bvs E) := bRange hb2 hgl hr
    have hB2 : RowKit.Below w.heap.size w W2 := hB1.trans (hb2.mono (by omega))
    clear hb2 hr hB1 bS1 k0 k1 k2 k3 k4
    have HB := Lib.hid (And.intro bA2 (And.intro hr2 hB2))
    clear bA2 hr2 hB2
    go_loopw [10] (fun i wr => ∃ k : Nat, k ≤ 5 ∧ i = .int .i64 k ∧ ∃ m, wr = W2.drewN m) (fun i _ => 5 - (intOf i).toNat)
    case atStart => exact ⟨0, by omega, rfl, 0, rfl⟩
    case round =>
      obtain ⟨k, hk, rfl, m0, rfl⟩ := hrel
      obtain ⟨bA2, hr2, hB2⟩ := HB.out
      by_cases hlt : k < 5
      · obtain ⟨p, q, x, hp, hq, hx, hpq, hx0, hx1⟩ := HN.out k hlt
        obtain ⟨m, hm⟩ : ∃ m, m = 2 * k := ⟨_, rfl⟩
        rw [← hm] at hp hq
        have c1 : W2.cell? ⟨g, og + m, none⟩ = some (.int .u8 p.toNat) := hr2 m _ (by simp [bvs, hp, bv])
        have c2 : W2.cell? ⟨g, og + (m + 1), none⟩ = some (.int .u8 q.toNat) := hr2 (m + 1) _ (by simp [bvs, hq, bv])
        have c3 := blk_cell bA2 hx
        have m1 : IntKind.i64.wrap (2 * (k : Int)) = (m : Int) := by rw [wrap_small _ (by omega) (by omega)]; omega
        have m2 : IntKind.i64.wrap ((m : Int) + 1) = (m : Int) + 1 := wrap_small _ (by omega) (by omega)
        have m3 : (0 : Int) ≤ (m : Int) := by omega
        have m4 : (m : Int) < 10 := by omega
        have m5 : (0 : Int) ≤ (m : Int) + 1 := by omega
        have m6 : (m : Int) + 1 < 10 := by omega
        have m7 : (0 : Int) ≤ (k : Int) := by omega
        have m8 : (k : Int) < 5 := by omega
        have p1 := p.toNat_lt
        have p2 := q.toNat_lt
        generalize p.toNat = P at *
        generalize q.toNat = Q at *
        have e1 : IntKind.i64.wrap (P : Int) = P := wrap_small _ (by omega) (by omega)
        have e2 : IntKind.i64.wrap (Q : Int) = Q := wrap_small _ (by omega) (by omega)
        have e3 : IntKind.i64.wrap ((P : Int) * 256) = P * 256 := wrap_small _ (by omega) (by omega)
        have e4 : IntKind.i64.wrap ((P : Int) * 256 + Q) = x := by rw [hpq]; exact wrap_small _ (by omega) (by omega)
        clear hm hpq bA2 hr2 hB2 hp hq hx
        go_wp2
        go_quiet (fail)
        go_wp2
        go_roundw
        case rel => exact ⟨k + 1, by omega, by go_num, _, rfl⟩
        case measure => simp [intOf]; omega
      · obtain rfl : k = 5 := by omega
        generalize hW3 : W2.drewN m0 = W3
        have bA3 : W3.heap[w1.heap.size]? = some (.cells #[.int .i64 a1, .int .i64 a2, .int .i64 a3, .int .i64 a4, .int .i64 a5] 38) := by rw [← hW3]; exact bA2
        have hB3 : RowKit.Below w.heap.size w W3 := by rw [← hW3]; exact bDrewN hB2 _
        have hz3 : w1.heap.size < W3.heap.size := by rw [← hW3]; exact hz2
        clear hW3 bA2 hB2 hr2 hz2 HB
        have k0 := blk_cell bA3 (k := 0) rfl
        have k1 := blk_cell bA3 (k := 1) rfl
        have k2 := blk_cell bA3 (k := 2) rfl
        have k3 := blk_cell bA3 (k := 3) rfl
        have k4 := blk_cell bA3 (k := 4) rfl
        have hw0 : IntKind.i64.wrap wh = wh := wrap_small _ hw.1 (by omega)
        have hj5 : Int.tmod wh 5 = 0 ∨ Int.tmod wh 5 = 1 ∨ Int.tmod wh 5 = 2 ∨ Int.tmod wh 5 = 3 ∨ Int.tmod wh 5 = 4 := by
          rw [Int.tmod_eq_emod_of_nonneg hw.1]; omega
        clear HN HE
        rcases hj5 with hj | hj | hj | hj | hj
        · have fA := blk_frozen bA3 0
          have hgv : Sty.good ⟨v, a2, a3, a4, a5⟩ = decide ((40 : Int) ≤ v ∧ v ≤ 400) := by
            have := HG.out
            simp only [Sty.good, btw, Bool.and_eq_true, decide_eq_true_eq] at this
            rw [Bool.eq_iff_iff]
            simp only [Sty.good, btw, Bool.and_eq_true, decide_eq_true_eq]
            omega
          have HV := Lib.hid hgv
          clear hgv
          go_wp2_with fail
          generalize hX : W3.setCell _ _ = X
          have hzX : X.heap.size = W3.heap.size := by rw [← hX]; simp
          have hBX : RowKit.Below w.heap.size w X := by rw [← hX]; exact hB3.setCell (by show _ ≤ w1.heap.size; omega) _
          clear hX k0 k1 k2 k3 k4 fA bA3
          generalize hX6 : World.alloc (World.alloc (World.alloc X _) _) _ = W6
          have bl : W6.heap[W3.heap.size]? = some (.cells #[.int .i64 40, .int .i64 3, .int .i64 0, .int .i64 0, .int .i64 0] 38) := by
            rw [← hX6, ← hzX]; exact (Below.heap_alloc _ _ _ (by simp; omega)).trans ((Below.heap_alloc _ _ _ (by simp)).trans (heap_alloc_new _ _))
          have bh : W6.heap[W3.heap.size + 1]? = some (.cells #[.int .i64 400, .int .i64 20, .int .i64 10000, .int .i64 1000, .int .i64 30] 38) := by
            have h1 : W3.heap.size + 1 = (X.alloc (.cells #[.int .i64 40, .int .i64 3, .int .i64 0, .int .i64 0, .int .i64 0] 38)).heap.size := by simp [hzX]
            rw [← hX6, h1]; exact (Below.heap_alloc _ _ _ (by simp)).trans (heap_alloc_new _ _)
          have bt : W6.heap[W3.heap.size + 1 + 1]? = some (.cells #[.int .i64 v, .int .i64 a2, .int .i64 a3, .int .i64 a4, .int .i64 a5] 23) := by
            have h1 : W3.heap.size + 1 + 1 = ((X.alloc (.cells #[.int .i64 40, .int .i64 3, .int .i64 0, .int .i64 0, .int .i64 0] 38)).alloc (.cells #[.int .i64 400, .int .i64 20, .int .i64 10000, .int .i64 1000, .int .i64 30] 38)).heap.size := by simp [hzX]
            rw [← hX6, h1]; exact heap_alloc_new _ _
          have hB6 : RowKit.Below w.heap.size w W6 := by
            rw [← hX6]; exact ((hBX.alloc (by omega) _).alloc (by simp; omega) _).alloc (by simp; omega) _
          have cl := cell_regrown (blk_cell bl (k := 0) rfl)
          have ch := cell_regrown (blk_cell bh (k := 0) rfl)
          have t0 := cell_regrown (blk_cell bt (k := 0) rfl)
          have t1 := cell_regrown (blk_cell bt (k := 1) rfl)
          have t2 := cell_regrown (blk_cell bt (k := 2) rfl)
          have t3 := cell_regrown (blk_cell bt (k := 3) rfl)
          have t4 := cell_regrown (blk_cell bt (k := 4) rfl)
          have hz6 := hB6.size
          clear hX6 bl bh bt hBX hB3 hzX
          by_cases hlo : (40 : Int) ≤ v
          · by_cases hhi : v ≤ (400 : Int)
            · have HV2 := Lib.hid (HV.out.trans (decide_eq_true ⟨hlo, hhi⟩))
              refine wp_region_quiet_below (by kernel_rfl) (by kernel_rfl) ?_
              repeat (quiet_step (first | (go_at_call 15; exact Calls.regrown_of (good_eq HV2 _)) | (go_at_call 10; exact Calls.regrown_of (wakes_any _))))
              refine wpQuiet_nil ?_
              intro _ hw'
              obtain ⟨pq, rfl⟩ := hw'
              go_wp2
              go_ret
              exact Ret.mk rfl (hB6.trans ((below_regrown W6 pq.d pq.os).mono (by omega)))
            · have HV2 := Lib.hid (HV.out.trans (decide_eq_false (fun h => hhi h.2)))
              refine wp_region_quiet_below (by kernel_rfl) (by kernel_rfl) ?_
              repeat (quiet_step (first | (go_at_call 15; exact Calls.regrown_of (good_eq HV2 _)) | (go_at_call 10; exact Calls.regrown_of (wakes_any _))))
              refine wpQuiet_nil ?_
              intro _ hw'
              obtain ⟨pq, rfl⟩ := hw'
              go_wp2
              go_ret
              exact Ret.mk rfl (hB6.trans ((below_regrown W6 pq.d pq.os).mono (by omega)))
          · have HV2 := Lib.hid (HV.out.trans (decide_eq_false (fun h => hlo h.1)))
            refine wp_region_quiet_below (by kernel_rfl) (by kernel_rfl) ?_
            repeat (quiet_step (first | (go_at_call 15; exact Calls.regrown_of (good_eq HV2 _)) | (go_at_call 10; exact Calls.regrown_of (wakes_any _))))
            refine wpQuiet_nil ?_
            intro _ hw'
            obtain ⟨pq, rfl⟩ := hw'
            go_wp2
            go_ret
            exact Ret.mk rfl (hB6.trans ((below_regrown W6 pq.d pq.os).mono (by omega)))
        · have fA := blk_frozen bA3 1
          have hgv : Sty.good ⟨a1, v, a3, a4, a5⟩ = decide ((3 : Int) ≤ v ∧ v ≤ 20) := by
            have := HG.out
            simp only [Sty.good, btw, Bool.and_eq_true, decide_eq_true_eq] at this
            rw [Bool.eq_iff_iff]
            simp only [Sty.good, btw, Bool.and_eq_true, decide_eq_true_eq]
            omega
          have HV := Lib.hid hgv
          clear hgv
          go_wp2_with fail
          generalize hX : W3.setCell _ _ = X
          have hzX : X.heap.size = W3.heap.size := by rw [← hX]; simp
          have hBX : RowKit.Below w.heap.size w X := by rw [← hX]; exact hB3.setCell (by show _ ≤ w1.heap.size; omega) _
          clear hX k0 k1 k2 k3 k4 fA bA3
          generalize hX6 : World.alloc (World.alloc (World.alloc X _) _) _ = W6
          have bl : W6.heap[W3.heap.size]? = some (.cells #[.int .i64 40, .int .i64 3, .int .i64 0, .int .i64 0, .int .i64 0] 38) := by
            rw [← hX6, ← hzX]; exact (Below.heap_alloc _ _ _ (by simp; omega)).trans ((Below.heap_alloc _ _ _ (by simp)).trans (heap_alloc_new _ _))
          have bh : W6.heap[W3.heap.size + 1]? = some (.cells #[.int .i64 400, .int .i64 20, .int .i64 10000, .int .i64 1000, .int .i64 30] 38) := by
            have h1 : W3.heap.size + 1 = (X.alloc (.cells #[.int .i64 40, .int .i64 3, .int .i64 0, .int .i64 0, .int .i64 0] 38)).heap.size := by simp [hzX]
            rw [← hX6, h1]; exact (Below.heap_alloc _ _ _ (by simp)).trans (heap_alloc_new _ _)
          have bt : W6.heap[W3.heap.size + 1 + 1]? = some (.cells #[.int .i64 a1, .int .i64 v, .int .i64 a3, .int .i64 a4, .int .i64 a5] 23) := by
            have h1 : W3.heap.size + 1 + 1 = ((X.alloc (.cells #[.int .i64 40, .int .i64 3, .int .i64 0, .int .i64 0, .int .i64 0] 38)).alloc (.cells #[.int .i64 400, .int .i64 20, .int .i64 10000, .int .i64 1000, .int .i64 30] 38)).heap.size := by simp [hzX]
            rw [← hX6, h1]; exact heap_alloc_new _ _
          have hB6 : RowKit.Below w.heap.size w W6 := by
            rw [← hX6]; exact ((hBX.alloc (by omega) _).alloc (by simp; omega) _).alloc (by simp; omega) _
          have cl := cell_regrown (blk_cell bl (k := 1) rfl)
          have ch := cell_regrown (blk_cell bh (k := 1) rfl)
          have t0 := cell_regrown (blk_cell bt (k := 0) rfl)
          have t1 := cell_regrown (blk_cell bt (k := 1) rfl)
          have t2 := cell_regrown (blk_cell bt (k := 2) rfl)
          have t3 := cell_regrown (blk_cell bt (k := 3) rfl)
          have t4 := cell_regrown (blk_cell bt (k := 4) rfl)
          have hz6 := hB6.size
          clear hX6 bl bh bt hBX hB3 hzX
          by_cases hlo : (3 : Int) ≤ v
          · by_cases hhi : v ≤ (20 : Int)
            · have HV2 := Lib.hid (HV.out.trans (decide_eq_true ⟨hlo, hhi⟩))
              refine wp_region_quiet_below (by kernel_rfl) (by kernel_rfl) ?_
              repeat (quiet_step (first | (go_at_call 15; exact Calls.regrown_of (good_eq HV2 _)) | (go_at_call 10; exact Calls.regrown_of (wakes_any _))))
              refine wpQuiet_nil ?_
              intro _ hw'
              obtain ⟨pq, rfl⟩ := hw'
              go_wp2
              go_ret
              exact Ret.mk rfl (hB6.trans ((below_regrown W6 pq.d pq.os).mono (by omega)))
            · have HV2 := Lib.hid (HV.out.trans (decide_eq_false (fun h => hhi h.2)))
              refine wp_region_quiet_below (by kernel_rfl) (by kernel_rfl) ?_
              repeat (quiet_step (first | (go_at_call 15; exact Calls.regrown_of (good_eq HV2 _)) | (go_at_call 10; exact Calls.regrown_of (wakes_any _))))
              refine wpQuiet_nil ?_
              intro _ hw'
              obtain ⟨pq, rfl⟩ := hw'
              go_wp2
              go_ret
              exact Ret.mk rfl (hB6.trans ((below_regrown W6 pq.d pq.os).mono (by omega)))
          · have HV2 := Lib.hid (HV.out.trans (decide_eq_false (fun h => hlo h.1)))
            refine wp_region_quiet_below (by kernel_rfl) (by kernel_rfl) ?_
            repeat (quiet_step (first | (go_at_call 15; exact Calls.regrown_of (good_eq HV2 _)) | (go_at_call 10; exact Calls.regrown_of (wakes_any _))))
            refine wpQuiet_nil ?_
            intro _ hw'
            obtain ⟨pq, rfl⟩ := hw'
            go_wp2
            go_ret
            exact Ret.mk rfl (hB6.trans ((below_regrown W6 pq.d pq.os).mono (by omega)))
        · have fA := blk_frozen bA3 2
          have hgv : Sty.good ⟨a1, a2, v, a4, a5⟩ = decide ((0 : Int) ≤ v ∧ v ≤ 10000) := by
            have := HG.out
            simp only [Sty.good, btw, Bool.and_eq_true, decide_eq_true_eq] at this
            rw [Bool.eq_iff_iff]
            simp only [Sty.good, btw, Bool.and_eq_true, decide_eq_true_eq]
            omega
          have HV := Lib.hid hgv
          clear hgv
          go_wp2_with fail
          generalize hX : W3.setCell _ _ = X
          have hzX : X.heap.size = W3.heap.size := by rw [← hX]; simp
          have hBX : RowKit.Below w.heap.size w X := by rw [← hX]; exact hB3.setCell (by show _ ≤ w1.heap.size; omega) _
          clear hX k0 k1 k2 k3 k4 fA bA3
          generalize hX6 : World.alloc (World.alloc (World.alloc X _) _) _ = W6
          have bl : W6.heap[W3.heap.size]? = some (.cells #[.int .i64 40, .int .i64 3, .int .i64 0, .int .i64 0, .int .i64 0] 38) := by
            rw [← hX6, ← hzX]; exact (Below.heap_alloc _ _ _ (by simp; omega)).trans ((Below.heap_alloc _ _ _ (by simp)).trans (heap_alloc_new _ _))
          have bh : W6.heap[W3.heap.size + 1]? = some (.cells #[.int .i64 400, .int .i64 20, .int .i64 10000, .int .i64 1000, .int .i64 30] 38) := by
            have h1 : W3.heap.size + 1 = (X.alloc (.cells #[.int .i64 40, .int .i64 3, .int .i64 0, .int .i64 0, .int .i64 0] 38)).heap.size := by simp [hzX]
            rw [← hX6, h1]; exact (Below.heap_alloc _ _ _ (by simp)).trans (heap_alloc_new _ _)
          have bt : W6.heap[W3.heap.size + 1 + 1]? = some (.cells #[.int .i64 a1, .int .i64 a2, .int .i64 v, .int .i64 a4, .int .i64 a5] 23) := by
            have h1 : W3.heap.size + 1 + 1 = ((X.alloc (.cells #[.int .i64 40, .int .i64 3, .int .i64 0, .int .i64 0, .int .i64 0] 38)).alloc (.cells #[.int .i64 400, .int .i64 20, .int .i64 10000, .int .i64 1000, .int .i64 30] 38)).heap.size := by simp [hzX]
            rw [← hX6, h1]; exact heap_alloc_new _ _
          have hB6 : RowKit.Below w.heap.size w W6 := by
            rw [← hX6]; exact ((hBX.alloc (by omega) _).alloc (by simp; omega) _).alloc (by simp; omega) _
          have cl := cell_regrown (blk_cell bl (k := 2) rfl)
          have ch := cell_regrown (blk_cell bh (k := 2) rfl)
          have t0 := cell_regrown (blk_cell bt (k := 0) rfl)
          have t1 := cell_regrown (blk_cell bt (k := 1) rfl)
          have t2 := cell_regrown (blk_cell bt (k := 2) rfl)
          have t3 := cell_regrown (blk_cell bt (k := 3) rfl)
          have t4 := cell_regrown (blk_cell bt (k := 4) rfl)
          have hz6 := hB6.size
          clear hX6 bl bh bt hBX hB3 hzX
          by_cases hlo : (0 : Int) ≤ v
          · by_cases hhi : v ≤ (10000 : Int)
            · have HV2 := Lib.hid (HV.out.trans (decide_eq_true ⟨hlo, hhi⟩))
              refine wp_region_quiet_below (by kernel_rfl) (by kernel_rfl) ?_
              repeat (quiet_step (first | (go_at_call 15; exact Calls.regrown_of (good_eq HV2 _)) | (go_at_call 10; exact Calls.regrown_of (wakes_any _))))
              refine wpQuiet_nil ?_
              intro _ hw'
              obtain ⟨pq, rfl⟩ := hw'
              go_wp2
              go_ret
              exact Ret.mk rfl (hB6.trans ((below_regrown W6 pq.d pq.os).mono (by omega)))
            · have HV2 := Lib.hid (HV.out.trans (decide_eq_false (fun h => hhi h.2)))
              refine wp_region_quiet_below (by kernel_rfl) (by kernel_rfl) ?_
              repeat (quiet_step (first | (go_at_call 15; exact Calls.regrown_of (good_eq HV2 _)) | (go_at_call 10; exact Calls.regrown_of (wakes_any _))))
              refine wpQuiet_nil ?_
              intro _ hw'
              obtain ⟨pq, rfl⟩ := hw'
              go_wp2
              go_ret
              exact Ret.mk rfl (hB6.trans ((below_regrown W6 pq.d pq.os).mono (by omega)))
          · have HV2 := Lib.hid (HV.out.trans (decide_eq_false (fun h => hlo h.1)))
            refine wp_region_quiet_below (by kernel_rfl) (by kernel_rfl) ?_
            repeat (quiet_step (first | (go_at_call 15; exact Calls.regrown_of (good_eq HV2 _)) | (go_at_call 10; exact Calls.regrown_of (wakes_any _))))
            refine wpQuiet_nil ?_
            intro _ hw'
            obtain ⟨pq, rfl⟩ := hw'
            go_wp2
            go_ret
            exact Ret.mk rfl (hB6.trans ((below_regrown W6 pq.d pq.os).mono (by omega)))
        · have fA := blk_frozen bA3 3
          have hgv : Sty.good ⟨a1, a2, a3, v, a5⟩ = decide ((0 : Int) ≤ v ∧ v ≤ 1000) := by
            have := HG.out
            simp only [Sty.good, btw, Bool.and_eq_true, decide_eq_true_eq] at this
            rw [Bool.eq_iff_iff]
            simp only [Sty.good, btw, Bool.and_eq_true, decide_eq_true_eq]
            omega
          have HV := Lib.hid hgv
          clear hgv
          go_wp2_with fail
          generalize hX : W3.setCell _ _ = X
          have hzX : X.heap.size = W3.heap.size := by rw [← hX]; simp
          have hBX : RowKit.Below w.heap.size w X := by rw [← hX]; exact hB3.setCell (by show _ ≤ w1.heap.size; omega) _
          clear hX k0 k1 k2 k3 k4 fA bA3
          generalize hX6 : World.alloc (World.alloc (World.alloc X _) _) _ = W6
          have bl : W6.heap[W3.heap.size]? = some (.cells #[.int .i64 40, .int .i64 3, .int .i64 0, .int .i64 0, .int .i64 0] 38) := by
            rw [← hX6, ← hzX]; exact (Below.heap_alloc _ _ _ (by simp; omega)).trans ((Below.heap_alloc _ _ _ (by simp)).trans (heap_alloc_new _ _))
          have bh : W6.heap[W3.heap.size + 1]? = some (.cells #[.int .i64 400, .int .i64 20, .int .i64 10000, .int .i64 1000, .int .i64 30] 38) := by
            have h1 : W3.heap.size + 1 = (X.alloc (.cells #[.int .i64 40, .int .i64 3, .int .i64 0, .int .i64 0, .int .i64 0] 38)).heap.size := by simp [hzX]
            rw [← hX6, h1]; exact (Below.heap_alloc _ _ _ (by simp)).trans (heap_alloc_new _ _)
          have bt : W6.heap[W3.heap.size + 1 + 1]? = some (.cells #[.int .i64 a1, .int .i64 a2, .int .i64 a3, .int .i64 v, .int .i64 a5] 23) := by
            have h1 : W3.heap.size + 1 + 1 = ((X.alloc (.cells #[.int .i64 40, .int .i64 3, .int .i64 0, .int .i64 0, .int .i64 0] 38)).alloc (.cells #[.int .i64 400, .int .i64 20, .int .i64 10000, .int .i64 1000, .int .i64 30] 38)).heap.size := by simp [hzX]
            rw [← hX6, h1]; exact heap_alloc_new _ _
          have hB6 : RowKit.Below w.heap.size w W6 := by
            rw [← hX6]; exact ((hBX.alloc (by omega) _).alloc (by simp; omega) _).alloc (by simp; omega) _
          have cl := cell_regrown (blk_cell bl (k := 3) rfl)
          have ch := cell_regrown (blk_cell bh (k := 3) rfl)
          have t0 := cell_regrown (blk_cell bt (k := 0) rfl)
          have t1 := cell_regrown (blk_cell bt (k := 1) rfl)
          have t2 := cell_regrown (blk_cell bt (k := 2) rfl)
          have t3 := cell_regrown (blk_cell bt (k := 3) rfl)
          have t4 := cell_regrown (blk_cell bt (k := 4) rfl)
          have hz6 := hB6.size
          clear hX6 bl bh bt hBX hB3 hzX
          by_cases hlo : (0 : Int) ≤ v
          · by_cases hhi : v ≤ (1000 : Int)
            · have HV2 := Lib.hid (HV.out.trans (decide_eq_true ⟨hlo, hhi⟩))
              refine wp_region_quiet_below (by kernel_rfl) (by kernel_rfl) ?_
              repeat (quiet_step (first | (go_at_call 15; exact Calls.regrown_of (good_eq HV2 _)) | (go_at_call 10; exact Calls.regrown_of (wakes_any _))))
              refine wpQuiet_nil ?_
              intro _ hw'
              obtain ⟨pq, rfl⟩ := hw'
              go_wp2
              go_ret
              exact Ret.mk rfl (hB6.trans ((below_regrown W6 pq.d pq.os).mono (by omega)))
            · have HV2 := Lib.hid (HV.out.trans (decide_eq_false (fun h => hhi h.2)))
              refine wp_region_quiet_below (by kernel_rfl) (by kernel_rfl) ?_
              repeat (quiet_step (first | (go_at_call 15; exact Calls.regrown_of (good_eq HV2 _)) | (go_at_call 10; exact Calls.regrown_of (wakes_any _))))
              refine wpQuiet_nil ?_
              intro _ hw'
              obtain ⟨pq, rfl⟩ := hw'
              go_wp2
              go_ret
              exact Ret.mk rfl (hB6.trans ((below_regrown W6 pq.d pq.os).mono (by omega)))
          · have HV2 := Lib.hid (HV.out.trans (decide_eq_false (fun h => hlo h.1)))
            refine wp_region_quiet_below (by kernel_rfl) (by kernel_rfl) ?_
            repeat (quiet_step (first | (go_at_call 15; exact Calls.regrown_of (good_eq HV2 _)) | (go_at_call 10; exact Calls.regrown_of (wakes_any _))))
            refine wpQuiet_nil ?_
            intro _ hw'
            obtain ⟨pq, rfl⟩ := hw'
            go_wp2
            go_ret
            exact Ret.mk rfl (hB6.trans ((below_regrown W6 pq.d pq.os).mono (by omega)))
        · have fA := blk_frozen bA3 4
          have hgv : Sty.good ⟨a1, a2, a3, a4, v⟩ = decide ((0 : Int) ≤ v ∧ v ≤ 30) := by
            have := HG.out
            simp only [Sty.good, btw, Bool.and_eq_true, decide_eq_true_eq] at this
            rw [Bool.eq_iff_iff]
            simp only [Sty.good, btw, Bool.and_eq_true, decide_eq_true_eq]
            omega
          have HV := Lib.hid hgv
          clear hgv
          go_wp2_with fail
          generalize hX : W3.setCell _ _ = X
          have hzX : X.heap.size = W3.heap.size := by rw [← hX]; simp
          have hBX : RowKit.Below w.heap.size w X := by rw [← hX]; exact hB3.setCell (by show _ ≤ w1.heap.size; omega) _
          clear hX k0 k1 k2 k3 k4 fA bA3
          generalize hX6 : World.alloc (World.alloc (World.alloc X _) _) _ = W6
          have bl : W6.heap[W3.heap.size]? = some (.cells #[.int .i64 40, .int .i64 3, .int .i64 0, .int .i64 0, .int .i64 0] 38) := by
            rw [← hX6, ← hzX]; exact (Below.heap_alloc _ _ _ (by simp; omega)).trans ((Below.heap_alloc _ _ _ (by simp)).trans (heap_alloc_new _ _))
          have bh : W6.heap[W3.heap.size + 1]? = some (.cells #[.int .i64 400, .int .i64 20, .int .i64 10000, .int .i64 1000, .int .i64 30] 38) := by
            have h1 : W3.heap.size + 1 = (X.alloc (.cells #[.int .i64 40, .int .i64 3, .int .i64 0, .int .i64 0, .int .i64 0] 38)).heap.size := by simp [hzX]
            rw [← hX6, h1]; exact (Below.heap_alloc _ _ _ (by simp)).trans (heap_alloc_new _ _)
          have bt : W6.heap[W3.heap.size + 1 + 1]? = some (.cells #[.int .i64 a1, .int .i64 a2, .int .i64 a3, .int .i64 a4, .int .i64 v] 23) := by
            have h1 : W3.heap.size + 1 + 1 = ((X.alloc (.cells #[.int .i64 40, .int .i64 3, .int .i64 0, .int .i64 0, .int .i64 0] 38)).alloc (.cells #[.int .i64 400, .int .i64 20, .int .i64 10000, .int .i64 1000, .int .i64 30] 38)).heap.size := by simp [hzX]
            rw [← hX6, h1]; exact heap_alloc_new _ _
          have hB6 : RowKit.Below w.heap.size w W6 := by
            rw [← hX6]; exact ((hBX.alloc (by omega) _).alloc (by simp; omega) _).alloc (by simp; omega) _
          have cl := cell_regrown (blk_cell bl (k := 4) rfl)
          have ch := cell_regrown (blk_cell bh (k := 4) rfl)
          have t0 := cell_regrown (blk_cell bt (k := 0) rfl)
          have t1 := cell_regrown (blk_cell bt (k := 1) rfl)
          have t2 := cell_regrown (blk_cell bt (k := 2) rfl)
          have t3 := cell_regrown (blk_cell bt (k := 3) rfl)
          have t4 := cell_regrown (blk_cell bt (k := 4) rfl)
          have hz6 := hB6.size
          clear hX6 bl bh bt hBX hB3 hzX
          by_cases hlo : (0 : Int) ≤ v
          · by_cases hhi : v ≤ (30 : Int)
            · have HV2 := Lib.hid (HV.out.trans (decide_eq_true ⟨hlo, hhi⟩))
              refine wp_region_quiet_below (by kernel_rfl) (by kernel_rfl) ?_
              repeat (quiet_step (first | (go_at_call 15; exact Calls.regrown_of (good_eq HV2 _)) | (go_at_call 10; exact Calls.regrown_of (wakes_any _))))
              refine wpQuiet_nil ?_
              intro _ hw'
              obtain ⟨pq, rfl⟩ := hw'
              go_wp2
              go_ret
              exact Ret.mk rfl (hB6.trans ((below_regrown W6 pq.d pq.os).mono (by omega)))
            · have HV2 := Lib.hid (HV.out.trans (decide_eq_false (fun h => hhi h.2)))
              refine wp_region_quiet_below (by kernel_rfl) (by kernel_rfl) ?_
              repeat (quiet_step (first | (go_at_call 15; exact Calls.regrown_of (good_eq HV2 _)) | (go_at_call 10; exact Calls.regrown_of (wakes_any _))))
              refine wpQuiet_nil ?_
              intro _ hw'
              obtain ⟨pq, rfl⟩ := hw'
              go_wp2
              go_ret
              exact Ret.mk rfl (hB6.trans ((below_regrown W6 pq.d pq.os).mono (by omega)))
          · have HV2 := Lib.hid (HV.out.trans (decide_eq_false (fun h => hlo h.1)))
            refine wp_region_quiet_below (by kernel_rfl) (by kernel_rfl) ?_
            repeat (quiet_step (first | (go_at_call 15; exact Calls.regrown_of (good_eq HV2 _)) | (go_at_call 10; exact Calls.regrown_of (wakes_any _))))
            refine wpQuiet_nil ?_
            intro _ hw'
            obtain ⟨pq, rfl⟩ := hw'
            go_wp2
            go_ret
            exact Ret.mk rfl (hB6.trans ((below_regrown W6 pq.d pq.os).mono (by omega)))

theorem stylePlaces_walk {H : Type} {enc : TypeId × Value → H} {W : World} {base : Nat} {v0 v1 v2 : Value} {d0 d1 d2 : DataW H} {p0 p1 p2 : List MemPlace}
    (k0 : Value.okWide Try.prog W .any base 23 v0) (h0 : DataW.Trod enc Try.prog W 0 (fun _ => true) true 23 v0 d0 p0)
    (k1 : Value.okWide Try.prog W .any base 5 v1) (h1 : DataW.Trod enc Try.prog W 0 (fun _ => true) true 5 v1 d1 p1)
    (k2 : Value.okWide Try.prog W .any base 3 v2) (h2 : DataW.Trod enc Try.prog W 0 (fun _ => true) true 3 v2 d2 p2)
    : Calls Try.prog 5 #[v0, v1, v2] W fun e W' => e = .returned (.bool true) ∧ Below W.heap.size W W' := by
  obtain ⟨s, rfl, -⟩ := open_style k0 h0
  obtain ⟨wh, rfl, -, -, w1⟩ := open_int Try.underlying5 k1 h1
  obtain ⟨v, rfl, -, -, w2⟩ := open_int Try.underlying3 k2 h2
  exact stylePlaces_core s wh v (wf_u8 w1) (wf64 w2) W
end Go.Proofs.Ytjfkaebikmnnaaa
