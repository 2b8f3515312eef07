/- SheetLimits: the walk. -/
import Derived.Test.YtiffcdeagckgmaaDoorShWakes
namespace Go.Proofs.YtiffcdeagckgmaaDoor
set_option linter.unusedSimpArgs false
set_option linter.unusedVariables false
open Go.RowKit Go.ChangeShapes Go.WideShapes Go.Sort Go.Deep
attribute [-go_sem] Builtin.append_

def lmL (A : Option Addr) (b x : Int) (tx : ByteArray) : List (LN × List PC) := [(⟨b, false, false, false, .slice A 1 1⟩, [⟨x, tx⟩])]
def LmG (a b x : Int) (tx : ByteArray) : Prop := 1 ≤ a ∧ a ≤ 255 ∧ 1 ≤ b ∧ b ≤ 3 ∧ 0 ≤ x ∧ x ≤ 65535 ∧ 1 ≤ tx.size ∧ tx.size ≤ 255 ∧ Lib.validD tx.data.toList = true
theorem lm_good (A : Option Addr) (a b x : Int) (tx : ByteArray) : GoodP a (lmL A b x tx) ↔ LmG a b x tx := by
  have hs : tx.data.toList.length = tx.size := rfl
  constructor
  · rintro ⟨⟨⟨h1, h2, -⟩, h4, h5⟩, -⟩
    have h6 := h4 _ (List.mem_singleton.2 rfl)
    have h7 := h5 ⟨x, tx⟩ (by simp [flatP, lmL])
    exact ⟨h1, h2, h6.1, h6.2.1, h7⟩
  · rintro ⟨h1, h2, h3, h4, h5, h6, h7, h8, h9⟩
    refine ⟨⟨⟨h1, h2, by simp [lmL]⟩, fun r hr => ?_, fun p hp => ?_⟩, ?_⟩
    · rw [List.mem_singleton.1 hr]; exact ⟨h3, h4, by simp⟩
    · simp only [flatP, lmL, List.flatMap_cons, List.flatMap_nil, List.append_nil, List.mem_singleton] at hp
      subst hp
      exact ⟨h5, h6, h7, h8, h9⟩
    · simp only [encB, lmL, lineB, pieceB, List.flatMap_cons, List.flatMap_nil, List.append_nil, List.length_append, List.length_cons, List.length_nil, hs]
      omega
def mnR : LN × List PC := (⟨1, false, false, false, .slice none 0 0⟩, [])
theorem mn_len (k : Nat) : (encB 1 (List.replicate k mnR)).length = 2 + 2 * k := by
  have : ((List.replicate k mnR).flatMap lineB).length = 2 * k := by
    induction k with
    | zero => rfl
    | succ k ih => rw [List.replicate_succ, List.flatMap_cons, List.length_append, ih]; simp [lineB, mnR]; omega
  rw [encB, List.length_append, this]
  rfl
theorem mn_good (k : Nat) : GoodP 1 (List.replicate k mnR) ↔ k ≤ 20 := by
  constructor
  · intro h
    have := h.1.1.2.2
    simpa using this
  · intro h
    refine ⟨⟨by simpa using h, fun r hr => ?_, fun p hp => ?_⟩, by rw [mn_len]; omega⟩
    · rw [(List.mem_replicate.1 hr).2]; exact ⟨by simp [mnR], by simp [mnR], by simp [mnR]⟩
    · obtain ⟨r, hr, hp⟩ := List.mem_flatMap.1 hp
      rw [(List.mem_replicate.1 hr).2] at hp
      cases hp
theorem rn_mn {w : World} {base n c : Nat} {A : Option Addr} (h : w.ownsRow base 45 5 (.slice A n c) n (lns (lnsOf (List.replicate n mnR)))) : RnAt w w.heap.size A n c (List.replicate n mnR) := by
  refine ⟨own_ln h (by simp [lnsOf]) (fun x hx => ?_), fun r hr => ?_⟩
  · obtain ⟨r, hr, rfl⟩ := List.mem_map.1 hx
    rw [(List.mem_replicate.1 hr).2]
    simp [mnR]
  · rw [(List.mem_replicate.1 hr).2]
    exact ⟨none, 0, 0, rfl, ⟨(fun x hx => by cases hx), rfl, Sl.nil, Nat.le_refl _, by simp [maxLen]⟩⟩
theorem alloc_four (w : World) (o1 o2 o3 o4 : Obj) : ((((w.alloc o1).alloc o2).alloc o3).alloc o4).heap[w.heap.size]? = some o1 ∧ ((((w.alloc o1).alloc o2).alloc o3).alloc o4).heap[w.heap.size + 1]? = some o2 ∧ ((((w.alloc o1).alloc o2).alloc o3).alloc o4).heap[w.heap.size + 1 + 1]? = some o3 ∧
    ((((w.alloc o1).alloc o2).alloc o3).alloc o4).heap[w.heap.size + 1 + 1 + 1]? = some o4 ∧ Below w.heap.size w ((((w.alloc o1).alloc o2).alloc o3).alloc o4) := by
  have e1 := heap_alloc_new w o1
  have e2 := heap_alloc_new (w.alloc o1) o2
  have e3 := heap_alloc_new ((w.alloc o1).alloc o2) o3
  have e4 := heap_alloc_new (((w.alloc o1).alloc o2).alloc o3) o4
  simp only [World.size_alloc] at e2 e3 e4
  refine ⟨?_, ?_, ?_, e4, ?_⟩
  · exact (Below.heap_alloc _ _ _ (by simp; try omega)).trans ((Below.heap_alloc _ _ _ (by simp; try omega)).trans ((Below.heap_alloc _ _ _ (by simp)).trans e1))
  · exact (Below.heap_alloc _ _ _ (by simp; try omega)).trans ((Below.heap_alloc _ _ _ (by simp)).trans e2)
  · exact (Below.heap_alloc _ _ _ (by simp)).trans e3
  · exact ((((Below.refl _ _).alloc (Nat.le_refl _) _).alloc (by simp) _).alloc (by simp; try omega) _).alloc (by simp; try omega) _
set_option maxRecDepth 100000 in
set_option maxHeartbeats 16000000 in
theorem sheetLimits_walk {H : Type} {enc : TypeId × Value → H} {W : World} {base : Nat} {v0 v1 : Value} {d0 d1 : DataW H} {p0 p1 : List MemPlace}
    (k0 : Value.okWide Tryd.prog W .any base 48 v0) (h0 : DataW.Trod enc Tryd.prog W 0 (fun _ => true) true 48 v0 d0 p0)
    (k1 : Value.okWide Tryd.prog W .any base 9 v1) (h1 : DataW.Trod enc Tryd.prog W 0 (fun _ => true) true 9 v1 d1 p1) (hT : Tabs W)
    : Calls Tryd.prog 6 #[v0, v1] W fun e W' => e = .returned (.bool true) ∧ Below W.heap.size W W' := by
  obtain ⟨l, hl, rfl, hw⟩ := open_ints_arr Tryd.underlying48 Tryd.underlying3 (by kernel_rfl) (by kernel_rfl) k0 h0
  obtain ⟨tx, rfl⟩ := okWide_string Tryd.underlying9 k1
  obtain ⟨a, b, x, d, rfl⟩ : ∃ a b x d, l = [a, b, x, d] := by
    match l, hl with
    | [a, b, x, d], _ => exact ⟨a, b, x, d, rfl⟩
  have ha := wf64 (hw a (by simp))
  have hb := wf64 (hw b (by simp))
  have hx := wf64 (hw x (by simp))
  have hd := wf64 (hw d (by simp))
  clear h0 h1 k0 k1 hw hl
  have HT := Lib.hid hT
  clear hT
  simp only [List.map_cons, List.map_nil]
  by_cases hlong : 400 < tx.size
  · have g1 : (400 : Int) < tx.size := by omega
    have hwk := wakes_any
    go_enter Tryd.func6, Tryd.ntmps6
    go_wp2_with fail
    refine Calls.mono (wakes_any _ (HT.out.below ((Below.refl _ _).alloc (Nat.le_refl _) _))) ?_
    rintro e w1 ⟨rfl, hb1⟩
    go_wp2_with fail
    go_ret
    exact ⟨rfl, bNext ((Below.refl _ _).alloc (Nat.le_refl _) _) hb1⟩
  · have g1 : ¬ (400 : Int) < tx.size := by omega
    go_enter Tryd.func6, Tryd.ntmps6
    go_upto_region 4 with (fail)
    obtain ⟨V, hV⟩ : ∃ q, (((W.alloc (.cells #[.int .i64 a, .int .i64 b, .int .i64 x, .int .i64 d] 48)).alloc (.cells #[.int .i64 x, .string tx] 47)).alloc (.cells #[.int .i64 b, .bool false, .bool false, .bool false, .slice (some ⟨W.heap.size + 1, 0, none⟩) 1 1] 45)).alloc (.cells #[.int .i64 a, .slice (some ⟨W.heap.size + 1 + 1, 0, none⟩) 1 1] 24) = q := ⟨_, rfl⟩
    obtain ⟨r0, r1, r2, r3, hbV⟩ := alloc_four W (.cells #[.int .i64 a, .int .i64 b, .int .i64 x, .int .i64 d] 48) (.cells #[.int .i64 x, .string tx] 47) (.cells #[.int .i64 b, .bool false, .bool false, .bool false, .slice (some ⟨W.heap.size + 1, 0, none⟩) 1 1] 45) (.cells #[.int .i64 a, .slice (some ⟨W.heap.size + 1 + 1, 0, none⟩) 1 1] 24)
    rw [hV] at r0 r1 r2 r3 hbV ⊢
    clear hV
    obtain ⟨g0, hg0⟩ : ∃ q, W.heap.size = q := ⟨_, rfl⟩
    obtain ⟨g1', hg1⟩ : ∃ q, W.heap.size + 1 = q := ⟨_, rfl⟩
    obtain ⟨g2, hg2⟩ : ∃ q, W.heap.size + 1 + 1 = q := ⟨_, rfl⟩
    obtain ⟨g3, hg3⟩ : ∃ q, W.heap.size + 1 + 1 + 1 = q := ⟨_, rfl⟩
    rw [hg3] at r3 ⊢
    rw [hg2] at r2 r3 ⊢
    rw [hg1] at r1 r2 ⊢
    have hz3 : g3 < V.heap.size := (Array.getElem?_eq_some_iff.1 r3).1
    have hrn : RnAt V V.heap.size (some ⟨g2, 0, none⟩) 1 1 (lmL (some ⟨g1', 0, none⟩) b x tx) := by
      refine ⟨⟨rfl, ⟨rfl, fun _ => ⟨g2, 0, rfl, by omega, range_blk r2⟩⟩, Nat.le_refl _, fun y hy => ?_⟩, fun r hr => ?_⟩
      · simp only [lnsOf, lmL, List.map_cons, List.map_nil, List.mem_singleton] at hy
        subst hy
        exact hb
      · simp only [lmL, List.mem_singleton] at hr
        subst hr
        refine ⟨_, _, _, rfl, fun y hy => ?_, rfl, ⟨rfl, fun _ => ⟨g1', 0, rfl, by omega, range_blk r1⟩⟩, Nat.le_refl _, by simp [maxLen]⟩
        simp only [List.mem_singleton] at hy
        subst hy
        exact hx
    have c0 : V.cell? ⟨W.heap.size, 0, none⟩ = some (.int .i64 a) := blk_cell r0 rfl
    have c1 : V.cell? ⟨W.heap.size, 1, none⟩ = some (.int .i64 b) := blk_cell r0 rfl
    have c2 : V.cell? ⟨W.heap.size, 2, none⟩ = some (.int .i64 x) := blk_cell r0 rfl
    have hgd := lm_good (some ⟨g1', 0, none⟩) a b x tx
    obtain ⟨gq, hgq⟩ : ∃ gq : Bool, (LmG a b x tx → gq = true) ∧ (¬ LmG a b x tx → gq = false) := by
      by_cases h : LmG a b x tx
      · exact ⟨true, fun _ => rfl, fun h2 => absurd h h2⟩
      · exact ⟨false, fun h2 => absurd h2 h, fun _ => rfl⟩
    have HG := Lib.hid hgq
    have HV := Lib.hid hbV
    have HX := Lib.hid (And.intro r0 (And.intro r3 (And.intro hrn (And.intro hgd (And.intro hg0 hg3)))))
    clear hgq hbV r0 r1 r2 r3 hrn hgd hg0 hg1 hg2 hg3
    go_cut [6] from 28 to 69 (fun s6 wx => s6 = .bool gq ∧ Below V.heap.size V wx)
    case first =>
      by_cases q0 : 1 ≤ a
      · by_cases q1 : a ≤ 255
        · by_cases q2 : 1 ≤ b
          · by_cases q3 : b ≤ 3
            · by_cases q4 : 0 ≤ x
              · by_cases q5 : x ≤ 65535
                · by_cases q6 : 1 ≤ tx.size
                  · have z6 : (1 : Int) ≤ (tx.size : Int) := by omega
                    by_cases q7 : tx.size ≤ 255
                    · have z7 : (tx.size : Int) ≤ 255 := by omega
                      go_wp2_with fail
                      refine Calls.mono (valid_any tx V (by omega) (HT.out.below HV.out)) ?_
                      rintro e wv ⟨rfl, hbv⟩
                      obtain ⟨vv, hvv⟩ : ∃ q, Lib.validD tx.data.toList = q := ⟨_, rfl⟩
                      rw [hvv]
                      have hq : gq = vv := by
                        cases vv
                        · exact HG.out.2 (fun h => by have h9 := h.2.2.2.2.2.2.2.2; rw [hvv] at h9; cases h9)
                        · exact HG.out.1 ⟨q0, q1, q2, q3, q4, q5, q6, q7, hvv⟩
                      have HQ := Lib.hid (And.intro hq (bNext (Below.refl _ _) hbv))
                      clear hq hvv hbv
                      go_wp2_with fail
                      go_meet
                      exact ⟨by rw [HQ.out.1], HQ.out.2⟩
                    · have hq : gq = false := HG.out.2 (fun h => q7 h.2.2.2.2.2.2.2.1)
                      have z7 : ¬ (tx.size : Int) ≤ 255 := by omega
                      have HQ := Lib.hid hq
                      clear hq
                      go_wp2_with fail
                      go_meet
                      exact ⟨by rw [HQ.out], Below.refl _ _⟩
                  · have hq : gq = false := HG.out.2 (fun h => q6 h.2.2.2.2.2.2.1)
                    have z6 : ¬ (1 : Int) ≤ (tx.size : Int) := by omega
                    have HQ := Lib.hid hq
                    clear hq
                    go_wp2_with fail
                    go_meet
                    exact ⟨by rw [HQ.out], Below.refl _ _⟩
                · have hq : gq = false := HG.out.2 (fun h => q5 h.2.2.2.2.2.1)
                  have HQ := Lib.hid hq
                  clear hq
                  go_wp2_with fail
                  go_meet
                  exact ⟨by rw [HQ.out], Below.refl _ _⟩
              · have hq : gq = false := HG.out.2 (fun h => q4 h.2.2.2.2.1)
                have HQ := Lib.hid hq
                clear hq
                go_wp2_with fail
                go_meet
                exact ⟨by rw [HQ.out], Below.refl _ _⟩
            · have hq : gq = false := HG.out.2 (fun h => q3 h.2.2.2.1)
              have HQ := Lib.hid hq
              clear hq
              go_wp2_with fail
              go_meet
              exact ⟨by rw [HQ.out], Below.refl _ _⟩
          · have hq : gq = false := HG.out.2 (fun h => q2 h.2.2.1)
            have HQ := Lib.hid hq
            clear hq
            go_wp2_with fail
            go_meet
            exact ⟨by rw [HQ.out], Below.refl _ _⟩
        · have hq : gq = false := HG.out.2 (fun h => q1 h.2.1)
          have HQ := Lib.hid hq
          clear hq
          go_wp2_with fail
          go_meet
          exact ⟨by rw [HQ.out], Below.refl _ _⟩
      · have hq : gq = false := HG.out.2 (fun h => q0 h.1)
        have HQ := Lib.hid hq
        clear hq
        go_wp2_with fail
        go_meet
        exact ⟨by rw [HQ.out], Below.refl _ _⟩
    case rest =>
      obtain ⟨rfl, hb4⟩ := hcut
      clear c0 c1 c2
      rename World => wx
      obtain ⟨r0, r3, hrn, hgd, hg0, hg3⟩ := HX.out
      have hzx := hb4.size
      have hgW : W.heap.size < V.heap.size := (Array.getElem?_eq_some_iff.1 r0).1
      obtain ⟨U, hU⟩ : ∃ q, wx.alloc (.cells #[.int .i64 1, .slice none 0 0] 24) = q := ⟨_, rfl⟩
      have bU : Below V.heap.size V U := by rw [← hU]; exact hb4.alloc hzx _
      have rM : U.heap[wx.heap.size]? = some (.cells #[.int .i64 1, .slice none 0 0] 24) := by rw [← hU]; exact heap_alloc_new _ _
      have c3 : U.cell? ⟨W.heap.size, 3, none⟩ = some (.int .i64 d) := blk_cell (bBlk bU hgW r0) rfl
      have HU := Lib.hid hU
      have HB := Lib.hid bU
      clear hU bU r0 r3 hrn hgd hg0 hg3 hb4
      go_upto_region 6 with (fail)
      rw [HU.out]
      obtain ⟨M, hM⟩ : ∃ q, wx.heap.size = q := ⟨_, rfl⟩
      rw [hM] at rM hzx ⊢
      clear hM HU
      go_upto_region 7 with (fail)
      go_cut [78] from 73 to 78 (fun s78 wz => s78 = .bool (decide (d < 0 ∨ 30 < d)) ∧ wz = U)
      case first =>
        by_cases e1 : d < 0
        · have e2 : decide (d < 0 ∨ 30 < d) = true := decide_eq_true (.inl e1)
          have E2 := Lib.hid e2
          clear e2
          go_wp2_with fail
          go_meet
          exact ⟨by rw [E2.out], rfl⟩
        · by_cases e3 : 30 < d
          · have e2 : decide (d < 0 ∨ 30 < d) = true := decide_eq_true (.inr e3)
            have E2 := Lib.hid e2
            clear e2
            go_wp2_with fail
            go_meet
            exact ⟨by rw [E2.out], rfl⟩
          · have e2 : decide (d < 0 ∨ 30 < d) = false := decide_eq_false (by omega)
            have E2 := Lib.hid e2
            clear e2
            go_wp2_with fail
            go_meet
            exact ⟨by rw [E2.out], rfl⟩
      case rest =>
        obtain ⟨rfl, hwz⟩ := hcut
        have hwz' := hwz.symm
        subst hwz'
        obtain ⟨bd, hbd⟩ : ∃ q, decide (d < 0 ∨ 30 < d) = q := ⟨_, rfl⟩
        rw [hbd]
        have HBD := Lib.hid hbd
        clear hbd
        go_upto_if 78 with (fail)
        go_cut [8] from 78 to 78 (fun s8 wz => ∃ k : Nat, k ≤ 30 ∧ s8 = .int .i64 k ∧ wz = U)
        case first =>
          cases bd
          · have h2 := of_decide_eq_false HBD.out
            have h3 : 0 ≤ d ∧ d ≤ 30 := by omega
            go_wp2_with fail
            go_meet
            exact ⟨d.toNat, by omega, by rw [Int.toNat_of_nonneg h3.1], rfl⟩
          · go_wp2_with fail
            go_meet
            exact ⟨20, by omega, rfl, rfl⟩
        case rest =>
          obtain ⟨k, hk, rfl, hwz⟩ := hcut
          have hwz' := hwz.symm
          subst hwz'
          clear c3 HBD
          go_wp2_with fail
          go_loopw [9] (fun s9 wr => ∃ (i : Nat) (A5 : Option Addr) (c5 : Nat), i ≤ k ∧ s9 = .int .i64 i ∧ wr.heap[M]? = some (.cells #[.int .i64 1, .slice A5 i c5] 24) ∧ Hid (wr.ownsRow (M + 1) 45 5 (.slice A5 i c5) i (lns (lnsOf (List.replicate i mnR))) ∧ Below V.heap.size V wr)) (fun q _ => k - (intOf q).toNat)
          case atStart => exact ⟨0, none, 0, by omega, rfl, rM, Lib.hid ⟨World.ownsRow_nil _ _ _ _, HB.out⟩⟩
          case round =>
            obtain ⟨i, A5, c5, hi, rfl, hrM, HI⟩ := hrel
            have hMr := (Array.getElem?_eq_some_iff.1 hrM).1
            by_cases hlt : i < k
            · have g4 : (i : Int) < k := by omega
              have d1 : wr.cell? ⟨M, 1, none⟩ = some (.slice A5 i c5) := blk_cell hrM rfl
              have hx87 : Sl (wr.alloc (.cells #[.int .i64 1, .bool false, .bool false, .bool false, .slice none 0 0] 45)) (wr.alloc (.cells #[.int .i64 1, .bool false, .bool false, .bool false, .slice none 0 0] 45)).heap.size 5 (some ⟨wr.heap.size, 0, none⟩) 1 mnR.1.cells := Sl.new (sz := 5) (n := 1) (heap_alloc_new wr _) rfl
              have hone : ∀ u ∈ mnR.1.cells, u.oneCell' = true := fun u hu => by
                have := one_lns (l := [mnR.1]) (fun y hy => by rw [List.mem_singleton.1 hy]; rfl) u
                exact this (by simpa [lns] using hu)
              have hown := HI.out.1.alloc (.cells #[.int .i64 1, .bool false, .bool false, .bool false, .slice none 0 0] 45)
              have hbs : M + 1 ≤ (wr.alloc (.cells #[.int .i64 1, .bool false, .bool false, .bool false, .slice none 0 0] 45)).heap.size := by simp; omega
              have hi9 : i ≤ 30 := by omega
              go_upto_region 12 with (fail)
              go_wp2_with (first
                | (refine wpList_app _ rfl (.tmp 85) (.tmp 87) 22 rfl (base := M + 1) Tryd.underlying22 elemLn rfl hown rfl hx87 hone (by simp only [maxLen]; omega) (by omega) hbs ?_)
                | fail)
              intro A21 c21 w21 hown21 hg21 hb21 hat21
              have hbL : w21.heap[M]? = (wr.alloc (.cells #[.int .i64 1, .bool false, .bool false, .bool false, .slice none 0 0] 45)).heap[M]? := hb21.block M (by omega)
              have rL21 : w21.heap[M]? = some (.cells #[.int .i64 1, .slice A5 i c5] 24) := hbL.trans (bBlk ((Below.refl wr.heap.size wr).alloc (Nat.le_refl _) _) hMr hrM)
              have d4 : w21.cell? ⟨M, 1, none⟩ = some (.slice A5 i c5) := blk_cell rL21 rfl
              have e4 := blk_frozen rL21 1
              have hbb := HI.out.2.size
              have hbV : Below V.heap.size V w21 := (HI.out.2.alloc hbb _).trans (hb21.mono (by omega))
              have HV2 := Lib.hid (And.intro hown21 (And.intro rL21 hbV))
              clear hown21 hg21 hb21 hat21 hbL rL21 hbV hown hx87 hone hbs d1 hrM
              (try simp only [Act.put, List.setIfInBounds_toArray, List.set_cons_zero, List.set_cons_succ])
              go_wp2_with fail
              go_roundw
              case rel =>
                refine ⟨i + 1, A21, c21, by omega, by go_num, blk_set HV2.out.2.1 1 _, Lib.hid ⟨?_, HV2.out.2.2.setCell (by show V.heap.size ≤ M; omega) _⟩⟩
                have e5 : lns (lnsOf (List.replicate (i + 1) mnR)) = lns (lnsOf (List.replicate i mnR)) ++ mnR.1.cells := by
                  rw [List.replicate_succ']; unfold lnsOf; rw [List.map_append, lns_append]; simp [lns]
                rw [e5]
                exact ownsRow_setCell_below HV2.out.1 (a := ⟨M, 1, none⟩) (by show M < M + 1; omega) _
              case measure => simp [intOf]; omega
            · obtain rfl : i = k := by omega
              obtain ⟨r0, r3, hrn, hgd, hg0, hg3⟩ := HX.out
              obtain ⟨hown, hbr⟩ := HI.out
              have hW : Below W.heap.size W wr := HV.out.trans (hbr.mono HV.out.size)
              have y0 : wr.cell? ⟨g3, 0, none⟩ = some (.int .i64 a) := blk_cell (bBlk hbr hz3 r3) rfl
              have y1 : wr.cell? ⟨g3, 1, none⟩ = some (.slice (some ⟨g2, 0, none⟩) 1 1) := blk_cell (bBlk hbr hz3 r3) rfl
              clear r0 hg0 hg3
              by_cases hL : LmG a b x tx
              · obtain rfl : gq = true := HG.out.1 hL
                have hE := enc_yes ha wr (hrn.nxt hbr) (by simp [maxLen]) (HT.out.below hW) (hgd.2 hL)
                have HE := Lib.hid hE
                have HK := Lib.hid (And.intro hrn (And.intro hbr (And.intro hW (And.intro hgd (And.intro r3 (And.intro hown hrM))))))
                clear hE hrn hbr hW hgd r3 hown hrM
                go_wp2_with fail
                refine Calls.mono HE.out ?_
                rintro e w13 ⟨A13, n13, c13, rfl, -, -, -, -, -, b13⟩
                obtain ⟨hrn, hbr, hW, hgd, r3, hown, hrM⟩ := HK.out
                have hb13 := bNext hbr b13
                have hW13 := bNext hW b13
                have c0 : w13.cell? ⟨g3, 0, none⟩ = some (.int .i64 a) := blk_cell (bBlk hb13 hz3 r3) rfl
                have c1 : w13.cell? ⟨g3, 1, none⟩ = some (.slice (some ⟨g2, 0, none⟩) 1 1) := blk_cell (bBlk hb13 hz3 r3) rfl
                have hE := good_yes ha w13 (hrn.nxt hb13) (by simp [maxLen]) (HT.out.below hW13) (hgd.2 hL)
                have HE := Lib.hid hE
                have HK := Lib.hid (And.intro hW13 (And.intro (own_below hown b13) (bBlk b13 hMr hrM)))
                have hMr13 : M < w13.heap.size := by have := b13.size; omega
                clear hE hrn hbr hW hgd r3 hown hrM hb13 hW13 b13
                go_wp2_with fail
                refine Calls.mono HE.out ?_
                rintro e w14 ⟨rfl, b14⟩
                obtain ⟨hW13, hown, hrM⟩ := HK.out
                have hW14 := bNext hW13 b14
                have hown14 := own_below hown b14
                have r14 := bBlk b14 hMr13 hrM
                have c2 : w14.cell? ⟨M, 0, none⟩ = some (.int .i64 1) := blk_cell r14 rfl
                have c3 : w14.cell? ⟨M, 1, none⟩ = some (.slice A5 i c5) := blk_cell r14 rfl
                have hc5 : c5 ≤ maxLen := by obtain ⟨_, _, e, -, h⟩ := own_form hown14; cases e; exact h
                have hrn14 := rn_mn hown14
                by_cases h20 : i ≤ 20
                · have z20 : (i : Int) ≤ 20 := by omega
                  have hE := good_yes (num := 1) (by omega) w14 hrn14 hc5 (HT.out.below hW14) ((mn_good i).2 h20)
                  have HE := Lib.hid hE
                  have HK := Lib.hid hW14
                  clear hE hW13 hown hrM hW14 hown14 r14 hrn14 b14
                  go_wp2_with fail
                  refine Calls.mono HE.out ?_
                  rintro e w15 ⟨rfl, b15⟩
                  have HK2 := Lib.hid (bNext HK.out b15)
                  clear b15
                  go_wp2_with fail
                  refine Calls.mono (wakes_any _ (HT.out.below HK2.out)) ?_
                  rintro e w16 ⟨rfl, b16⟩
                  have HK3 := Lib.hid (bNext HK2.out b16)
                  clear b16
                  go_wp2_with fail
                  go_ret
                  exact ⟨rfl, HK3.out⟩
                · have z20 : ¬ (i : Int) ≤ 20 := by omega
                  have hE := good_no (num := 1) (by omega) w14 hrn14 hc5 (HT.out.below hW14) (fun h => h20 ((mn_good i).1 h))
                  have HE := Lib.hid hE
                  have HK := Lib.hid hW14
                  clear hE hW13 hown hrM hW14 hown14 r14 hrn14 b14
                  go_wp2_with fail
                  refine Calls.mono HE.out ?_
                  rintro e w15 ⟨rfl, b15⟩
                  have HK2 := Lib.hid (bNext HK.out b15)
                  clear b15
                  go_wp2_with fail
                  refine Calls.mono (wakes_any _ (HT.out.below HK2.out)) ?_
                  rintro e w16 ⟨rfl, b16⟩
                  have HK3 := Lib.hid (bNext HK2.out b16)
                  clear b16
                  go_wp2_with fail
                  go_ret
                  exact ⟨ret_bool (by rw [decide_eq_false (by omega)]; rfl), HK3.out⟩
              · obtain rfl : gq = false := HG.out.2 hL
                have hE := enc_not ha wr (hrn.nxt hbr) (by simp [maxLen]) (HT.out.below hW) (fun h => hL (hgd.1 h))
                have HE := Lib.hid hE
                have HK := Lib.hid (And.intro hrn (And.intro hbr (And.intro hW (And.intro hgd (And.intro r3 (And.intro hown hrM))))))
                clear hE hrn hbr hW hgd r3 hown hrM
                go_wp2_with fail
                refine Calls.mono HE.out ?_
                rintro e w13 ⟨A13, n13, c13, rfl, -, -, -, -, -, b13⟩
                obtain ⟨hrn, hbr, hW, hgd, r3, hown, hrM⟩ := HK.out
                have hb13 := bNext hbr b13
                have hW13 := bNext hW b13
                have c0 : w13.cell? ⟨g3, 0, none⟩ = some (.int .i64 a) := blk_cell (bBlk hb13 hz3 r3) rfl
                have c1 : w13.cell? ⟨g3, 1, none⟩ = some (.slice (some ⟨g2, 0, none⟩) 1 1) := blk_cell (bBlk hb13 hz3 r3) rfl
                have hE := good_no ha w13 (hrn.nxt hb13) (by simp [maxLen]) (HT.out.below hW13) (fun h => hL (hgd.1 h))
                have HE := Lib.hid hE
                have HK := Lib.hid (And.intro hW13 (And.intro (own_below hown b13) (bBlk b13 hMr hrM)))
                have hMr13 : M < w13.heap.size := by have := b13.size; omega
                clear hE hrn hbr hW hgd r3 hown hrM hb13 hW13 b13
                go_wp2_with fail
                refine Calls.mono HE.out ?_
                rintro e w14 ⟨rfl, b14⟩
                obtain ⟨hW13, hown, hrM⟩ := HK.out
                have hW14 := bNext hW13 b14
                have hown14 := own_below hown b14
                have r14 := bBlk b14 hMr13 hrM
                have c2 : w14.cell? ⟨M, 0, none⟩ = some (.int .i64 1) := blk_cell r14 rfl
                have c3 : w14.cell? ⟨M, 1, none⟩ = some (.slice A5 i c5) := blk_cell r14 rfl
                have hc5 : c5 ≤ maxLen := by obtain ⟨_, _, e, -, h⟩ := own_form hown14; cases e; exact h
                have hrn14 := rn_mn hown14
                by_cases h20 : i ≤ 20
                · have z20 : (i : Int) ≤ 20 := by omega
                  have hE := good_yes (num := 1) (by omega) w14 hrn14 hc5 (HT.out.below hW14) ((mn_good i).2 h20)
                  have HE := Lib.hid hE
                  have HK := Lib.hid hW14
                  clear hE hW13 hown hrM hW14 hown14 r14 hrn14 b14
                  go_wp2_with fail
                  refine Calls.mono HE.out ?_
                  rintro e w15 ⟨rfl, b15⟩
                  have HK2 := Lib.hid (bNext HK.out b15)
                  clear b15
                  go_wp2_with fail
                  refine Calls.mono (wakes_any _ (HT.out.below HK2.out)) ?_
                  rintro e w16 ⟨rfl, b16⟩
                  have HK3 := Lib.hid (bNext HK2.out b16)
                  clear b16
                  go_wp2_with fail
                  go_ret
                  exact ⟨rfl, HK3.out⟩
                · have z20 : ¬ (i : Int) ≤ 20 := by omega
                  have hE := good_no (num := 1) (by omega) w14 hrn14 hc5 (HT.out.below hW14) (fun h => h20 ((mn_good i).1 h))
                  have HE := Lib.hid hE
                  have HK := Lib.hid hW14
                  clear hE hW13 hown hrM hW14 hown14 r14 hrn14 b14
                  go_wp2_with fail
                  refine Calls.mono HE.out ?_
                  rintro e w15 ⟨rfl, b15⟩
                  have HK2 := Lib.hid (bNext HK.out b15)
                  clear b15
                  go_wp2_with fail
                  refine Calls.mono (wakes_any _ (HT.out.below HK2.out)) ?_
                  rintro e w16 ⟨rfl, b16⟩
                  have HK3 := Lib.hid (bNext HK2.out b16)
                  clear b16
                  go_wp2_with fail
                  go_ret
                  exact ⟨ret_bool (by rw [decide_eq_false (by omega)]; rfl), HK3.out⟩
end Go.Proofs.YtiffcdeagckgmaaDoor
