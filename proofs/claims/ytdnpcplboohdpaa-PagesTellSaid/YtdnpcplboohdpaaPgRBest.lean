/- The walk over codexref20.Best. (s8/pgrbest.py writes it.) -/
import Derived.Test.YtdnpcplboohdpaaPgRRep
namespace Go.Proofs.Ytdnpcplboohdpaa
set_option linter.unusedSimpArgs false
set_option linter.unusedVariables false
open Go.RowKit Go.Sort

attribute [-go_sem] Builtin.append_
theorem ints0 (w : World) : (Instr.buildSlice 33 0 #[]).run Try.prog w = .ok (.slice (some ⟨w.heap.size, 0, none⟩) 0 0) (w.alloc (.cells #[] 3)) := by
  go_simp
theorem wy_inf (A : Option Addr) (n c : Nat) (t : Int) : (Try.prog.info? 35).map (·.size) = some (#[.slice A n c, .int .i64 t, .int .i64 0] : Array Value).size := wy_size
theorem wy_zs {zw : Array Value} (h : zw.size = 3) (A : Option Addr) (n c : Nat) (t : Int) : zw.size = (#[.slice A n c, .int .i64 t, .int .i64 0] : Array Value).size := by rw [h]; rfl
theorem wy_on (A : Option Addr) (n c : Nat) (t : Int) : (#[.slice A n c, .int .i64 t, .int .i64 0] : Array Value).all (·.oneCell') = true := by simp [Value.oneCell']
/-- a way of one's own in memory, behind Z -/
def ApOut (Z : World) (m : Nat) (E : List Int) (t : Int) (s : Value) (wx : World) : Prop :=
  ∃ g A c, s = .pointer (some ⟨g, 0, none⟩) ∧ wx.heap[g]? = some (.cells #[.slice A m c, .int .i64 t, .int .i64 0] 35) ∧ IvAt wx wx.heap.size A m c E ∧ (∀ b o i, A = some ⟨b, o, i⟩ → Z.heap.size ≤ b) ∧ Z.heap.size ≤ g ∧ Below Z.heap.size Z wx
theorem ap_out {Z wx : World} {m : Nat} {E : List Int} {E1 : List Value} {t : Int} {s : Value} {g : Nat} {A : Option Addr} {c : Nat} (hs : s = .pointer (some ⟨g, 0, none⟩)) (hb : Below Z.heap.size Z wx) (hown : wx.ownsRow Z.heap.size 3 1 (.slice A m c) m E1)
    (hblk : wx.heap[g]? = some (.cells #[.slice A m c, .int .i64 t, .int .i64 0] 35)) (hne : (Value.slice A m c).ownBlock ≠ some g) (hge : Z.heap.size ≤ g) (he : E1 = ivs E) (hw : (∀ z ∈ E, -9223372036854775808 ≤ z ∧ z ≤ 9223372036854775807) ∧ E.length = m) : ApOut Z m E t s wx := by
  subst he
  have hg := own_ge hown
  obtain ⟨_, _, e, hcap, -⟩ := own_form hown
  cases e
  exact ⟨g, A, c, hs, hblk, ⟨hw.1, hw.2, Sl.of_own hown, hcap⟩, fun b o i e => hg b (by rw [e]; rfl), hge, hb⟩
theorem gst_one {R : Nat → WY} (h : R 0 = wy0) (j : Nat) : gst R 1 wy0 j = wy0 := by
  unfold gst
  by_cases h1 : j < 1
  · rw [if_pos h1, show j = 0 by omega, h]
  · rw [if_neg h1]; split <;> rfl
theorem ivn_own {w : World} {base F n c : Nat} {A : Option Addr} {E1 : List Value} {E : List Int} (hown : w.ownsRow base 3 1 (.slice A n c) n E1) (hF : F < base) (hw : E.length = n ∧ ∀ z ∈ E, -9223372036854775808 ≤ z ∧ z ≤ 9223372036854775807) (he : E1 = ivs E := by exact (ivs_append _ _).symm) : IvN w F A n c E := by
  subst he
  have hg := own_ge hown
  obtain ⟨_, _, e, hcap, -⟩ := own_form hown
  cases e
  exact ⟨⟨hw.2, hw.1, Sl.of_own hown, hcap⟩, fun b o i e => by have := hg b (by rw [e]; rfl); omega⟩
/-- does the new way replace the best one so far? -/
def newB (c : Option WY) (y : WY) : Bool := match c with | none => true | some x => bett y x
theorem offr_new (c : Option WY) (y : WY) : offr c y = if newB c y then some y else c := by
  cases c with
  | none => rfl
  | some x => unfold offr newB; rfl
theorem ejP_gt {l : List LN} {f : Nat} {x : LN} (hx : l[f]? = some x) (he : x.ej = false) : f < ejP l f := by
  have hf := (List.getElem?_eq_some_iff.1 hx).1
  have hle := ejP_le (l := l) (a := f) (by omega)
  rcases Nat.lt_or_ge f (ejP l f) with h | h
  · exact h
  · obtain ⟨y, hy, h2⟩ := ejP_at (l := l) (a := f) (by omega)
    rw [show ejP l f = f by omega, hx] at hy
    cases hy
    rw [he] at h2; cases h2
set_option maxHeartbeats 32000000 in
set_option maxRecDepth 100000 in
theorem rbest_yes {A : Option Addr} {n c : Nat} {h : Int} {l : List LN} (w : World) (hl : LnAt w w.heap.size A n c l) (hone : ∀ x ∈ l, x.One) (h3 : 3 ≤ h) (h20 : h ≤ 20) (hn : n ≤ 300) : Calls Try.prog 15 #[.slice A n c, .int .i64 h] w (SecP w (allW l h (n + 1) 0 wy0)) := by
  have hln := hl.len
  have hb0 : Try.prog.built 35 [] = some wyz := by kernel_rfl
  have hwz := wyZ
  have hw3 : (Try.prog.info? 35).map (·.size) = some wyz.size := wy_size
  have hc1 : wyz.all (·.oneCell') = true := by simp [wyz, Value.oneCell']
  have hz3 : wyz.size = 3 := rfl
  obtain ⟨RW, hRW⟩ : ∃ q, allW l h (n + 1) 0 wy0 = q := ⟨_, rfl⟩
  rw [hRW]
  have hrest0 : RestW l h 0 wy0 RW := fun q hq => by rw [← hRW]; exact allW_fuel _ _ _ _ (by omega) (by omega)
  have HL := Lib.hid (And.intro hl (And.intro hone hln))
  have HR0 := Lib.hid hrest0
  clear hRW hl hone hln hrest0
  obtain ⟨zw, hzw⟩ : ∃ q, wyz = q := ⟨_, rfl⟩
  rw [hzw] at hb0 hwz hw3 hc1 hz3
  have HZW := Lib.hid hzw
  clear hzw
  have hpz := prZ
  obtain ⟨zp, hzp⟩ : ∃ q : Array Value, #[.int .i64 0, .bool false] = q := ⟨_, rfl⟩
  have hz2 : zp.size = 2 := by rw [← hzp]; rfl
  rw [hzp] at hpz
  clear hzp
  have n1 : ¬ h < 3 := by omega
  have n2 : ¬ 20 < h := by omega
  have n3 : ¬ (300 : Int) < (n : Int) := by omega
  go_enter Try.func15, Try.ntmps15
  go_upto_region 1 with (first | (refine wpList_new rfl hwz rfl ?_) | fail)
  obtain ⟨W1, hW1⟩ : ∃ q, w.alloc (.cells zw 35) = q := ⟨_, rfl⟩
  have y4 : W1.heap[w.heap.size]? = some (.cells zw 35) := by rw [← hW1]; exact heap_alloc_new _ _
  have hB1 : Below w.heap.size w W1 := by rw [← hW1]; exact (Below.refl _ _).alloc (Nat.le_refl _) _
  have hz1 : W1.heap.size = w.heap.size + 1 := by rw [← hW1]; simp
  rw [hW1]
  clear hW1
  obtain ⟨X, hX, y5, bX⟩ := newRow W1 zw zw 35
  have y4X := bBlk bX (Array.getElem?_eq_some_iff.1 y4).1 y4
  have hBX := bNext hB1 bX
  obtain ⟨g5, hg5⟩ : ∃ q, W1.heap.size = q := ⟨_, rfl⟩
  have hgw : g5 = w.heap.size + 1 := by omega
  rw [hg5] at y5
  have HX := Lib.hid (And.intro y4X (And.intro y5 (And.intro hBX hgw)))
  have hgX : g5 < X.heap.size := (Array.getElem?_eq_some_iff.1 y5).1
  clear y4X y5 hBX y4 hB1 hz1 bX hgw
  go_upto_region 2 with (first
    | (refine wpList_built rfl 35 #[] rfl (cs := zw) (by simp only [List.map_toArray, List.map_nil]; exact hb0) ?_)
    | (refine wpList_new rfl hwz rfl ?_)
    | (refine wpList_store_row rfl 35 (.tmp 5) (.tmp 14) rfl _ zw rfl rfl _ zw (heap_alloc_new _ _) hw3 rfl hc1 ?_)
    | fail)
  try rw [hX]
  rw [hg5]
  clear hX hg5 hb0 hc1
  obtain ⟨g4, hg4⟩ : ∃ q, w.heap.size = q := ⟨_, rfl⟩
  rw [hg4] at HX
  rw [hg4]
  have HG4 := Lib.hid hg4
  clear hg4
  go_wp2_with fail
  go_loopw [6] (fun s6 wr => ∃ (f : Nat) (acc : WY) (A5 : Option Addr) (c5 : Nat), f ≤ n ∧ s6 = .int .i64 f ∧ g5 < wr.heap.size ∧ Hid (Below g4 w wr ∧ wr.heap[g4]? = some (.cells zw 35) ∧ wr.heap[g5]? = some (.cells #[.slice A5 acc.ends.length c5, .int .i64 acc.total, .int .i64 0] 35) ∧
    IvN wr g5 A5 acc.ends.length c5 acc.ends ∧ okAcc n f acc ∧ RestW l h f acc RW)) (fun i _ => n - (intOf i).toNat)
  case atStart =>
    refine ⟨0, wy0, none, 0, by omega, rfl, hgX, Lib.hid ⟨HX.out.2.2.1, HX.out.1, by have := HX.out.2.1; rw [← HZW.out] at this; exact this, ⟨⟨by simp [wy0], rfl, Sl.nil, Nat.le_refl _⟩, fun b o i e => by cases e⟩, ⟨by simp [wy0], by simp [wy0], by simp [wy0], by simp [wy0]⟩, HR0.out⟩⟩
  case round =>
    clear hgX HR0
    obtain ⟨f, acc, A5, c5, hf, rfl, hg5r, HO⟩ := hrel
    have hbw : Below w.heap.size w wr := by rw [HG4.out]; exact HO.out.1
    by_cases hfn : f < n
    rotate_left
    · obtain rfl : f = n := by omega
      have hfn' : ¬ (f : Int) < (f : Int) := by omega
      have hRa : Hid (RW = acc) := Lib.hid (rest_end (by have := HO.out.2.2.2.2.2; rw [← HL.out.2.2] at this; exact this))
      obtain ⟨hbr, r4, r5, hiv, hacc, -⟩ := HO.out
      obtain ⟨cw, hcw⟩ : ∃ q : Array Value, #[.slice A5 acc.ends.length c5, .int .i64 acc.total, .int .i64 0] = q := ⟨_, rfl⟩
      rw [hcw] at r5
      have hwi : (Try.prog.info? 35).map (·.size) = some cw.size := by rw [← hcw]; exact wy_size
      have hzc : zw.size = cw.size := by rw [hz3, ← hcw]; rfl
      have hc1 : cw.all (·.oneCell') = true := by rw [← hcw]; simp [Value.oneCell']
      have HZ := Lib.hid (And.intro hbr (And.intro hiv hcw))
      clear hbr hiv hcw hacc HO
      go_wp2_with (first
        | (refine wpList_load_row rfl 35 (.tmp 5) rfl _ rfl _ cw (0, 0) _ r5 Try.underlying35 rfl hwi ?_)
        | (refine wpList_store_row rfl 35 (.tmp 4) (.tmp 166) rfl _ cw rfl rfl _ zw r4 hwi hzc hc1 ?_)
        | fail)
      generalize hXX : World.setRow _ _ _ = X9
      obtain ⟨hbr, hiv, hcw⟩ := HZ.out
      have hg4 := HG4.out
      subst hg4
      have b9 : X9.heap[w.heap.size]? = some (.cells cw 35) := by rw [← hXX]; exact setRow_heap _ _ _ _ _ _ r4
      have hB9 : Below w.heap.size w X9 := by rw [← hXX]; exact bSetRow hbr (Nat.le_refl _) _
      have hsz9 : wr.heap.size ≤ X9.heap.size := by rw [← hXX]; exact (bSetRow (Below.refl w.heap.size wr) (Nat.le_refl _) _).size
      have hivX : IvAt X9 X9.heap.size A5 acc.ends.length c5 acc.ends := by
        obtain ⟨hw, hlen, hsl, hcap⟩ := hiv.iv
        refine ⟨hw, hlen, ⟨hsl.len, fun h0 => ?_⟩, hcap⟩
        obtain ⟨b, o, e, hlt, hr⟩ := hsl.at_ h0
        refine ⟨b, o, e, by omega, fun j v hj => ?_⟩
        have hne : b ≠ w.heap.size := by have := hiv.far b o none e; have := HX.out.2.2.2; omega
        refine Eq.trans (World.cell?_of_block (a := ⟨b, o + j, none⟩) ?_) (hr j v hj)
        rw [← hXX]
        exact setRow_other _ _ _ _ hne
      clear hXX
      refine bodyPost_ret (results_cell_row Try.results15 _ X9 w.heap.size 35 cw (0, 0) _ ?_ b9 Try.underlying35 rfl hwi) rfl ?_
      · rfl
      rw [hRa.out]
      exact ⟨A5, _, c5, by rw [← hcw]; rfl, hivX, hB9⟩
    · have hfn' : (f : Int) < (n : Int) := by omega
      have hf0 : (0 : Int) ≤ (f : Int) := by omega
      obtain ⟨x, hx⟩ : ∃ x, l[f]? = some x := ⟨_, List.getElem?_eq_getElem (by rw [HL.out.2.2]; exact hfn)⟩
      obtain ⟨bl, ol, rfl, hblB, hxr⟩ := HL.out.1.entry hx
      have hk := (ln_cells (bRange hbw hblB hxr)).1
      have hblw : bl < wr.heap.size := by have := hbw.size; omega
      by_cases hej : x.kind = 4
      · rw [hej] at hk
        have g1 : IntKind.i64.wrap ((f : Int) + 1) = ((f + 1 : Nat) : Int) := by rw [wrap_small _ (by omega) (by omega)]; omega
        have HX2 := Lib.hid (rest_skip hx (by unfold LN.ej; exact decide_eq_true hej) HO.out.2.2.2.2.2)
        clear hx hxr hej hbw
        go_wp2_with fail
        go_roundw
        case rel => exact ⟨f + 1, acc, A5, c5, by omega, by go_num, hg5r, Lib.hid ⟨HO.out.1, HO.out.2.1, HO.out.2.2.1, HO.out.2.2.2.1, okAcc_up HO.out.2.2.2.2.1 (by omega), HX2.out⟩⟩
        case measure => simp [intOf]; omega
      · have hxe : x.ej = false := by unfold LN.ej; exact decide_eq_false hej
        have hgt := ejP_gt hx hxe
        have hle := ejP_le (l := l) (a := f) (by rw [HL.out.2.2]; omega)
        rw [HL.out.2.2] at hle
        have hrs := rest_sec (h := h) (by rw [HL.out.2.2]; exact hfn) HO.out.2.2.2.2.2
        have hao := acc_okR (l := l) (h := h) h20 hle.1 hle.2 HO.out.2.2.2.2.1
        obtain ⟨t, ht⟩ : ∃ q, ejP l f = q := ⟨_, rfl⟩
        rw [ht] at hgt hle hrs hao
        obtain ⟨htf, htn⟩ := hle
        have hejb : (x.kind == 4) = false := by simpa using hej
        have HT := Lib.hid (And.intro ht (And.intro hrs hao))
        clear hx hxr ht hrs hao hxe
        go_upto_region 8 with (fail)
        go_wp2_with fail
        rename World => Zo
        go_loopw [7] (fun s7 wr => ∃ g : Nat, f ≤ g ∧ g ≤ t ∧ s7 = .int .i64 g ∧ wr = Zo) (fun g _ => t - (intOf g).toNat)
        case atStart => exact ⟨f, by omega, by omega, rfl, rfl⟩
        case round =>
          obtain ⟨g, hg1, hg2, rfl, rfl⟩ := hrel
          rename World => Zo
          have hg0 : (0 : Int) ≤ (g : Int) := by omega
          go_upto_region 9 with (fail)
          go_cut [51] from 40 to 51 (fun s51 wx => s51 = .bool (decide (g < t)) ∧ wx = Zo)
          case first =>
            by_cases hgn : g < n
            · have hgn' : (g : Int) < (n : Int) := by omega
              obtain ⟨y, hy⟩ : ∃ y, l[g]? = some y := ⟨_, List.getElem?_eq_getElem (by rw [HL.out.2.2]; exact hgn)⟩
              obtain ⟨b', o', hA', hbB', hyr⟩ := HL.out.1.entry hy
              cases hA'
              have hky := (ln_cells (bRange hbw hblB hyr)).1
              by_cases hgt2 : g < t
              · have hk4 : ¬ y.kind = 4 := by
                  have := ejP_before (a := f) hg1 (by rw [HT.out.1]; exact hgt2) hy
                  unfold LN.ej at this
                  exact of_decide_eq_false this
                have hk4b : (y.kind == 4) = false := by simpa using hk4
                have HD := Lib.hid (decide_eq_true hgt2)
                clear hy hyr
                go_wp2_with fail
                go_meet
                exact ⟨by rw [HD.out]; simp [hk4], by trivial⟩
              · have hk4 : y.kind = 4 := by
                  obtain ⟨z, hz, he⟩ := ejP_at (l := l) (a := f) (by rw [HT.out.1, HL.out.2.2]; omega)
                  rw [HT.out.1, show t = g by omega, hy] at hz
                  cases hz
                  unfold LN.ej at he
                  exact of_decide_eq_true he
                rw [hk4] at hky
                have HD := Lib.hid (decide_eq_false hgt2)
                clear hy hyr hk4
                go_wp2_with fail
                go_meet
                exact ⟨by rw [HD.out]; try simp, by trivial⟩
            · have hgn' : ¬ (g : Int) < (n : Int) := by omega
              have HD := Lib.hid (show decide (g < t) = false from decide_eq_false (by omega))
              go_wp2_with fail
              go_meet
              exact ⟨by rw [HD.out]; try simp, by trivial⟩
          case rest =>
          obtain ⟨rfl, hwx⟩ := hcut
          subst hwx
          rename World => Z0
          by_cases hgt2 : g < t
          · rw [decide_eq_true hgt2]
            have g1 : IntKind.i64.wrap ((g : Int) + 1) = ((g + 1 : Nat) : Int) := by rw [wrap_small _ (by omega) (by omega)]; omega
            go_wp2_with fail
            go_roundw
            case rel => exact ⟨g + 1, by omega, by omega, by go_num, by trivial⟩
            case measure => simp [intOf]; omega
          · obtain rfl : g = t := by omega
            rw [decide_eq_false hgt2]
            clear hg1 hg2 hgt2 hk hej hg0
            obtain ⟨K, hK⟩ : ∃ K, g - f = K := ⟨_, rfl⟩
            obtain ⟨N, hN⟩ : ∃ N, K + 1 = N := ⟨_, rfl⟩
            have e1 : IntKind.i64.wrap ((g : Int) - (f : Int)) = (K : Int) := by rw [wrap_small _ (by omega) (by omega)]; omega
            have e2 : IntKind.i64.wrap ((K : Int) + 1) = (N : Int) := by rw [wrap_small _ (by omega) (by omega)]; omega
            have hmk := make_tab3 N (by omega) (by omega) Z0
            obtain ⟨cs0, hcs0⟩ : ∃ q, madeCells wyz (N * 3) = q := ⟨_, rfl⟩
            rw [hcs0] at hmk
            obtain ⟨Y, hY⟩ : ∃ q, Z0.alloc (.cells cs0 35) = q := ⟨_, rfl⟩
            have yF : Y.heap[Z0.heap.size]? = some (.cells cs0 35) := by rw [← hY]; exact heap_alloc_new _ _
            have hbY : Below Z0.heap.size Z0 Y := by rw [← hY]; exact (Below.refl _ _).alloc (Nat.le_refl _) _
            rw [hY] at hmk
            clear hY
            obtain ⟨F, hF⟩ : ∃ F, Z0.heap.size = F := ⟨_, rfl⟩
            rw [hF] at hmk yF hbY
            have hrep : RRep Y F N (gst (rW l f h) 1 wy0) cs0 := (tab_new3 yF hcs0.symm).list (fun j hj => gst_one (rW_zero l f h) j)
            have hFY : F < Y.heap.size := (Array.getElem?_eq_some_iff.1 yF).1
            have hg5F : g5 < F := by omega
            have hK300 : K ≤ 300 := by omega
            have hgK : f + K = g := by omega
            have hblF : bl < F := by omega
            have HS := Lib.hid (And.intro hrep hbY)
            have HFZ := Lib.hid (And.intro hF (And.intro hK hbw))
            clear hrep hbY yF hcs0 hF hK hbw
            have hN1 : 1 ≤ N := by omega
            have hKN : K + 1 = N := hN
            clear hN
            go_upto_region 12 with (fail)
            go_wp2_with fail
            go_loopw [9] (fun s9 wr => ∃ k : Nat, 1 ≤ k ∧ k ≤ N ∧ s9 = .int .i64 k ∧ F < wr.heap.size ∧ Hid (Below F Z0 wr ∧ ∃ cs, RRep wr F N (gst (rW l f h) k wy0) cs)) (fun i _ => N - (intOf i).toNat)
            case atStart => exact ⟨1, by omega, by omega, rfl, hFY, Lib.hid ⟨HS.out.2, cs0, HS.out.1⟩⟩
            case round =>
              clear HS hFY hmk e2
              obtain ⟨k, hk1, hkN, rfl, hFr, HK⟩ := hrel
              by_cases hlt : k < N
              · have hi1 : (k : Int) ≤ (K : Int) := by omega
                obtain ⟨lo, hlo⟩ : ∃ lo, loOf h k = lo := ⟨_, rfl⟩
                have hlok : lo < k ∧ (lo : Int) = max 0 ((k : Int) - h) := by unfold loOf at hlo; omega
                have m1 : IntKind.i64.wrap ((k : Int) - h) = (k : Int) - h := IntWalk.i64_in _ (by omega)
                have m2 : max (0 : Int) ((k : Int) - h) = (lo : Int) := hlok.2.symm
                have hlk := hlok.1
                have hcst := cur_start l f h k
                rw [hlo] at hcst
                have hkg : f + k ≤ g := by have := HFZ.out.2.1; omega
                have HLO := Lib.hid (And.intro hlo hcst)
                clear hlo hlok hcst
                go_upto_region 16 with (fail)
                go_wp2_with fail
                rename World => wo
                go_loopw [10, 11] (fun s10 s11 wr => ∃ i : Nat, lo ≤ i ∧ i ≤ k ∧ s10 = .bool (curW l f h k i).isSome ∧ s11 = .int .i64 i ∧ F < wr.heap.size ∧ Hid (Below F Z0 wr ∧ ∃ cs, RRep wr F N (gst (rW l f h) k ((curW l f h k i).getD wy0)) cs)) (fun _ i _ => k - (intOf i).toNat)
                case atStart => exact ⟨lo, by omega, by omega, by rw [HLO.out.2]; rfl, rfl, hFr, Lib.hid (by rw [HLO.out.2]; exact HK.out)⟩
                case round =>
                  clear HK hFr
                  obtain ⟨i, hil, hik, rfl, rfl, hFr, HI⟩ := hrel
                  by_cases hilt : i < k
                  · have hii : (i : Int) < (k : Int) := by omega
                    have hi0 : (0 : Int) ≤ (i : Int) := by omega
                    obtain ⟨hcs, hok⟩ := cur_step (l := l) (a := f) (i := i) (k := k) (h := h) (by omega) (by rw [HL.out.2.2]; omega) (by rw [HT.out.1]; exact hkg) (by rw [HLO.out.1]; exact hil) hilt
                    have hpr := price_rng h20 hok
                    have hbF : Below Z0.heap.size Z0 wr := by rw [HFZ.out.1]; exact HI.out.1
                    have hcost := rcost_any (a := ((f + i : Nat) : Int)) (b := ((f + k : Nat) : Int)) (h := h) wr (HL.out.1.nxt (bNext HFZ.out.2.2 hbF)) HL.out.2.1 (by omega) (by omega)
                    have hcn : costN l ((f + i : Nat) : Int) ((f + k : Nat) : Int) h = price l ((f + i : Nat) : Int) ((f + k : Nat) : Int) h := by unfold costN; rw [if_pos hok]
                    rw [hcn, hok] at hcost
                    have hxo := rW_ok (l := l) (a := f) (k := i) (h := h) h20
                    have hco := cur_ok (l := l) (a := f) (k := k) (i := i) (h := h) h20 hik (by rw [HLO.out.1]; exact hil)
                    obtain ⟨cs, hrep⟩ := HI.out.2
                    have hcel := hrep.cel i (by omega)
                    rw [gst_lt hilt] at hcel
                    have hcelk := hrep.cel k hlt
                    rw [gst_at] at hcelk
                    have g1 : IntKind.i64.wrap ((f : Int) + (i : Int)) = ((f + i : Nat) : Int) := by rw [wrap_small _ (by omega) (by omega)]; omega
                    have g2 : IntKind.i64.wrap ((f : Int) + (k : Int)) = ((f + k : Nat) : Int) := by rw [wrap_small _ (by omega) (by omega)]; omega
                    obtain ⟨ai, hai⟩ : ∃ q, f + i = q := ⟨_, rfl⟩
                    obtain ⟨ak, hak⟩ : ∃ q, f + k = q := ⟨_, rfl⟩
                    obtain ⟨PR, hPR⟩ : ∃ q, price l ((f + i : Nat) : Int) ((f + k : Nat) : Int) h = q := ⟨_, rfl⟩
                    rw [hPR] at hcs hpr hcost
                    rw [hai] at g1 hcost
                    rw [hak] at g2 hcost hcs
                    obtain ⟨x, hxq⟩ : ∃ q, rW l f h i = q := ⟨_, rfl⟩
                    rw [hxq] at hcs hcel hxo
                    obtain ⟨cur, hcur⟩ : ∃ q, curW l f h k i = q := ⟨_, rfl⟩
                    rw [hcur] at hcs hcelk hco
                    rw [hcur]
                    obtain ⟨th, hth⟩ : ∃ b, cur.isSome = b := ⟨_, rfl⟩
                    rw [hth]
                    obtain ⟨A0, m0, c0, c00, c01, c02, hiv0⟩ := hcel
                    obtain ⟨A9, m9, c9, c90, c91, c92, hiv9⟩ := hcelk
                    obtain ⟨ox1, ox2, ox3, ox4⟩ := hxo
                    have hm0 : m0 = x.ends.length := hiv0.iv.len.symm
                    have hm0k : m0 ≤ 300 := by omega
                    obtain ⟨TT, hTT⟩ : ∃ q, x.total + PR = q := ⟨_, rfl⟩
                    have g6 : IntKind.i64.wrap (x.total + PR) = TT := by rw [hTT]; exact wrap_small _ (by omega) (by omega)
                    rw [hTT] at hcs
                    obtain ⟨cp, hcp⟩ : ∃ q : Array Value, #[.int .i64 PR, .bool true] = q := ⟨_, rfl⟩
                    unfold prv at hcost
                    rw [hcp] at hcost
                    have hpi : (Try.prog.info? 30).map (·.size) = some cp.size := by rw [← hcp]; exact pr_info PR
                    have hpzs : zp.size = cp.size := by rw [← hcp]; exact pr_zs hz2 PR
                    have hpo : cp.all (·.oneCell') = true := by rw [← hcp]; exact pr_one PR
                    have hwl : (∀ z ∈ x.ends ++ [(ak : Int)], -9223372036854775808 ≤ z ∧ z ≤ 9223372036854775807) ∧ (x.ends ++ [(ak : Int)]).length = m0 + 1 := by
                      refine ⟨fun z hz => ?_, by rw [List.length_append, ← hm0]; rfl⟩
                      rcases List.mem_append.1 hz with hz | hz
                      · have := ox4 z hz; omega
                      · rw [List.mem_singleton.1 hz]; omega
                    have HEN := Lib.hid (And.intro (ivs_append x.ends [(ak : Int)]).symm hwl)
                    have HM := Lib.hid (And.intro hcs (And.intro hco (And.intro hth (And.intro hcur hcp))))
                    have HW := Lib.hid (And.intro hrep (And.intro hbF (And.intro (And.intro c00 (And.intro c01 (And.intro c90 c91))) (And.intro hiv0 hiv9))))
                    have hm9 : m9 ≤ 1000000 := by
                      have h1 := hiv9.iv.len
                      cases hcc : cur with
                      | none => rw [hcc] at h1; simp [wy0] at h1; omega
                      | some y => have := (hco y hcc).2.2.1; rw [hcc] at h1; simp at h1; omega
                    clear hcs hok hbF hcn hco hrep hai hak hPR hxq hcur hth c00 c01 c02 c90 c91 c92 hiv0 hiv9 ox1 ox2 ox3 ox4 hm0 hTT hwl hcp hpr HI
                    have hin : (i : Int) < (N : Int) := by omega
                    have hkn' : (k : Int) < (N : Int) := by omega
                    have hk0 : (0 : Int) ≤ (k : Int) := by omega
                    go_upto_region 19 with (fail)
                    go_wp2_with fail
                    refine Calls.mono hcost ?_
                    rintro e wz ⟨rfl, hbz⟩
                    clear hcost
                    obtain ⟨Z, hZ, z12, bZ⟩ := newRow wz zp cp 30
                    go_upto_region 20 with (first
                      | (refine wpList_new rfl hpz rfl ?_)
                      | (refine wpList_store_row rfl 30 (.tmp 12) (.tmp 83) rfl _ cp rfl rfl _ zp (heap_alloc_new _ _) hpi hpzs hpo ?_)
                      | fail)
                    try rw [hZ]
                    clear hZ hpi hpzs hpo
                    have hbZ := hbz.trans (bZ.mono hbz.size)
                    have k12 : Z.cell? ⟨wz.heap.size, 0, none⟩ = some (.int .i64 PR) := blk_cell z12 (by rw [← HM.out.2.2.2.2]; rfl)
                    have hgp : wz.heap.size < Z.heap.size := (Array.getElem?_eq_some_iff.1 z12).1
                    obtain ⟨gp, hgpe⟩ : ∃ q, wz.heap.size = q := ⟨_, rfl⟩
                    rw [hgpe] at k12 hgp
                    rw [hgpe]
                    have hFZ2 : F < Z.heap.size := by have := hbZ.size; omega
                    have d0 := (hbZ.cell (p := ⟨F, i * 3, none⟩) hFr).trans (blk_cell HW.out.1.blk HW.out.2.2.1.1)
                    have d1 := (hbZ.cell (p := ⟨F, i * 3 + 1, none⟩) hFr).trans (blk_cell HW.out.1.blk HW.out.2.2.1.2.1)
                    have hsrc : Sl Z Z.heap.size 1 A0 m0 (ivs x.ends) := (HW.out.2.2.2.1.iv.nxt hbZ).sl
                    have HZZ := Lib.hid (And.intro (HW.out.1.nxt hbZ) (And.intro (bNext HW.out.2.1 hbZ) (HW.out.2.2.2.2.but (but_of hbZ))))
                    clear hgpe z12 bZ hbz hbZ
                    (try simp only [Act.put, List.setIfInBounds_toArray, List.set_cons_zero, List.set_cons_succ])
                    go_cut [13] from 84 to 104 (fun s13 wx => ApOut Z (m0 + 1) (x.ends ++ [(ak : Int)]) TT s13 wx)
                    case first =>
                      let S : World → Prop := fun w' => Below Z.heap.size Z w'
                      have hS0 : S Z.drew := (Below.refl _ _).drew
                      have r1 : ∀ w', S w' → w'.cell? ⟨F, i * 3, none⟩ = some (.slice A0 m0 c0) := fun w' h => (Below.cell h (p := ⟨F, i * 3, none⟩) hFZ2).trans d0
                      have r2 : ∀ w', S w' → w'.cell? ⟨F, i * 3 + 1, none⟩ = some (.int .i64 x.total) := fun w' h => (Below.cell h (p := ⟨F, i * 3 + 1, none⟩) hFZ2).trans d1
                      have r3 : ∀ w', S w' → w'.cell? ⟨gp, 0, none⟩ = some (.int .i64 PR) := fun w' h => (Below.cell h (p := ⟨gp, 0, none⟩) hgp).trans k12
                      clear d0 d1 k12
                      refine wp_region_held (S := S) (by kernel_rfl) ?_
                      change wpAnyH _ _ _ _ S _ _ _ Z.drew
                      have hA := Ap.start Z 3 1
                      obtain ⟨V0, hV0⟩ : ∃ q, Z.drew = q := ⟨_, rfl⟩
                      rw [hV0] at hA hS0 ⊢
                      clear hV0
                      change At 1 _
                      iterate 5 (first | (apply tkA; (case hi => (simp only [List.getElem?_toArray, List.getElem?_cons_zero, List.getElem?_cons_succ]; rfl)); (case hw => rfl); (case hy => (intro w' hSw; have q := r1 w' hSw; (try simp only [S] at hSw); go_simp; (try with_reducible rfl))); (case hs => kernel_rfl); (case hf => kernel_rfl); (case hr => kernel_rfl); (case hQ => exact fun _ _ _ h => h); (case hS => assumption); (try simp only [Act.put, List.setIfInBounds_toArray, List.set_cons_zero, List.set_cons_succ, Nat.reduceAdd])) | (apply skA; (case hi => (simp only [List.getElem?_toArray, List.getElem?_cons_zero, List.getElem?_cons_succ]; rfl)); (case hw => rfl); (case hs => kernel_rfl); (case hf => kernel_rfl); (case hr => kernel_rfl); (case hQ => exact fun _ _ _ h => h); (case hS => assumption); (try simp only [Act.put, List.setIfInBounds_toArray, List.set_cons_zero, List.set_cons_succ, Nat.reduceAdd])))
                      change wpAnyH _ _ _ _ _ _ _ _ _
                      change At 7 _
                      iterate 3 (first | (apply tkA; (case hi => (simp only [List.getElem?_toArray, List.getElem?_cons_zero, List.getElem?_cons_succ]; rfl)); (case hw => rfl); (case hy => (intro w' hSw; (try simp only [S] at hSw); go_simp; (try with_reducible rfl))); (case hs => kernel_rfl); (case hf => kernel_rfl); (case hr => kernel_rfl); (case hQ => exact fun _ _ _ h => h); (case hS => assumption); (try simp only [Act.put, List.setIfInBounds_toArray, List.set_cons_zero, List.set_cons_succ, Nat.reduceAdd])) | (apply skA; (case hi => (simp only [List.getElem?_toArray, List.getElem?_cons_zero, List.getElem?_cons_succ]; rfl)); (case hw => rfl); (case hs => kernel_rfl); (case hf => kernel_rfl); (case hr => kernel_rfl); (case hQ => exact fun _ _ _ h => h); (case hS => assumption); (try simp only [Act.put, List.setIfInBounds_toArray, List.set_cons_zero, List.set_cons_succ, Nat.reduceAdd])))
                      change wpAnyH _ _ _ _ _ _ _ _ _
                      change At 12 _
                      iterate 5 (first | (apply tkA; (case hi => (simp only [List.getElem?_toArray, List.getElem?_cons_zero, List.getElem?_cons_succ]; rfl)); (case hw => rfl); (case hy => (intro w' hSw; have q := r2 w' hSw; (try simp only [S] at hSw); go_simp; (try with_reducible rfl))); (case hs => kernel_rfl); (case hf => kernel_rfl); (case hr => kernel_rfl); (case hQ => exact fun _ _ _ h => h); (case hS => assumption); (try simp only [Act.put, List.setIfInBounds_toArray, List.set_cons_zero, List.set_cons_succ, Nat.reduceAdd])) | (apply skA; (case hi => (simp only [List.getElem?_toArray, List.getElem?_cons_zero, List.getElem?_cons_succ]; rfl)); (case hw => rfl); (case hs => kernel_rfl); (case hf => kernel_rfl); (case hr => kernel_rfl); (case hQ => exact fun _ _ _ h => h); (case hS => assumption); (try simp only [Act.put, List.setIfInBounds_toArray, List.set_cons_zero, List.set_cons_succ, Nat.reduceAdd])))
                      change wpAnyH _ _ _ _ _ _ _ _ _
                      change At 17 _
                      iterate 3 (first | (apply tkA; (case hi => (simp only [List.getElem?_toArray, List.getElem?_cons_zero, List.getElem?_cons_succ]; rfl)); (case hw => rfl); (case hy => (intro w' hSw; have q := r3 w' hSw; (try simp only [S] at hSw); go_simp; (try with_reducible rfl))); (case hs => kernel_rfl); (case hf => kernel_rfl); (case hr => kernel_rfl); (case hQ => exact fun _ _ _ h => h); (case hS => assumption); (try simp only [Act.put, List.setIfInBounds_toArray, List.set_cons_zero, List.set_cons_succ, Nat.reduceAdd])) | (apply skA; (case hi => (simp only [List.getElem?_toArray, List.getElem?_cons_zero, List.getElem?_cons_succ]; rfl)); (case hw => rfl); (case hs => kernel_rfl); (case hf => kernel_rfl); (case hr => kernel_rfl); (case hQ => exact fun _ _ _ h => h); (case hS => assumption); (try simp only [Act.put, List.setIfInBounds_toArray, List.set_cons_zero, List.set_cons_succ, Nat.reduceAdd])))
                      change wpAnyH _ _ _ _ _ _ _ _ _
                      refine wpAnyH_ready (rs := [0, 10, 21]) (by kernel_rfl) (by simp) (AllReadyH.cons (o := ?oo0_18) ?hoo0_18 (fun K hK => ?stepQA0) (AllReadyH.cons (o := ?oo10_18) ?hoo10_18 (fun K hK => ?stepQA10) (AllReadyH.cons (o := ?oo21_18) ?hoo21_18 (fun K hK => ?stepQA21) AllReadyH.nil))); (case hoo0_18 => (simp only [List.getElem?_toArray, List.getElem?_cons_zero, List.getElem?_cons_succ]; rfl)); (case hoo10_18 => (simp only [List.getElem?_toArray, List.getElem?_cons_zero, List.getElem?_cons_succ]; rfl)); (case hoo21_18 => (simp only [List.getElem?_toArray, List.getElem?_cons_zero, List.getElem?_cons_succ]; rfl))
                      case stepQA0 =>
                        refine step_slice rfl 33 0 #[] rfl (by simp only [List.map_toArray, List.map_nil]; exact ints0 V0) ?_
                        refine Ap.go0 hA ?_
                        intro V1 ga hA2
                        refine hK.out _ _ hA2.below (fun _ => ?_)
                        clear hK K hA
                        (try simp only [Act.put, List.setIfInBounds_toArray, List.set_cons_zero, List.set_cons_succ])
                        have hA := hA2
                        clear hA2
                        refine wpAnyH_ready (rs := [6, 10, 21]) (by kernel_rfl) (by simp) (AllReadyH.cons (o := ?oo6_19) ?hoo6_19 (fun K hK => ?stepQB6) (AllReadyH.cons (o := ?oo10_19) ?hoo10_19 (fun K hK => ?stepQB10) (AllReadyH.cons (o := ?oo21_19) ?hoo21_19 (fun K hK => ?stepQB21) AllReadyH.nil))); (case hoo6_19 => (simp only [List.getElem?_toArray, List.getElem?_cons_zero, List.getElem?_cons_succ]; rfl)); (case hoo10_19 => (simp only [List.getElem?_toArray, List.getElem?_cons_zero, List.getElem?_cons_succ]; rfl)); (case hoo21_19 => (simp only [List.getElem?_toArray, List.getElem?_cons_zero, List.getElem?_cons_succ]; rfl))
                        case stepQB6 =>
                          refine step_app _ rfl (.tmp 84) (.tmp 89) 33 rfl (base := Z.heap.size) Try.underlying33 elemI rfl hA.own rfl (hsrc.below hA.below) (one_ivs _) (by simp only [maxLen]; omega) (by omega) hA.ge ?_
                          intro A1 c1 w2 hown1 hg1 hb1 hat1
                          simp only [Nat.zero_add, List.nil_append] at hown1 hat1 ⊢
                          have hA2 := hA.app hown1 hg1 hb1 hat1
                          refine hK.out _ _ hA2.below (fun _ => ?_)
                          clear hK K hown1 hg1 hb1 hat1 hA
                          (try simp only [Act.put, List.setIfInBounds_toArray, List.set_cons_zero, List.set_cons_succ])
                          have hA := hA2
                          clear hA2
                          refine wpAnyH_ready (rs := [10, 21]) (by kernel_rfl) (by simp) (AllReadyH.cons (o := ?oo10_20) ?hoo10_20 (fun K hK => ?stepQC10) (AllReadyH.cons (o := ?oo21_20) ?hoo21_20 (fun K hK => ?stepQC21) AllReadyH.nil)); (case hoo10_20 => (simp only [List.getElem?_toArray, List.getElem?_cons_zero, List.getElem?_cons_succ]; rfl)); (case hoo21_20 => (simp only [List.getElem?_toArray, List.getElem?_cons_zero, List.getElem?_cons_succ]; rfl))
                          case stepQC10 =>
                            refine step_slice rfl 33 1 #[(0, .tmp 93)] rfl (by simp only [List.map_toArray, List.map_cons, List.map_nil]; exact ints1 (ak : Int) w2) ?_
                            refine Ap.go1 hA ?_
                            intro V3 gb hA2
                            refine hK.out _ _ hA2.below (fun _ => ?_)
                            clear hK K hA
                            (try simp only [Act.put, List.setIfInBounds_toArray, List.set_cons_zero, List.set_cons_succ])
                            have hA := hA2
                            clear hA2
                            refine wpAnyH_ready (rs := [11, 21]) (by kernel_rfl) (by simp) (AllReadyH.cons (o := ?oo11_21) ?hoo11_21 (fun K hK => ?stepQD11) (AllReadyH.cons (o := ?oo21_21) ?hoo21_21 (fun K hK => ?stepQD21) AllReadyH.nil)); (case hoo11_21 => (simp only [List.getElem?_toArray, List.getElem?_cons_zero, List.getElem?_cons_succ]; rfl)); (case hoo21_21 => (simp only [List.getElem?_toArray, List.getElem?_cons_zero, List.getElem?_cons_succ]; rfl))
                            case stepQD11 =>
                              refine step_app _ rfl (.tmp 90) (.tmp 94) 33 rfl (base := Z.heap.size) Try.underlying33 elemI rfl hA.own rfl (Sl.new (sz := 1) (n := 1) (hA.blk gb _ (List.Mem.head _)).1 rfl) (one_ivs [(ak : Int)]) (by simp only [maxLen]; omega) (by omega) hA.ge ?_
                              intro A2 c2 w4 hown1 hg1 hb1 hat1
                              have hA2 := hA.app hown1 hg1 hb1 hat1
                              refine hK.out _ _ hA2.below (fun _ => ?_)
                              clear hK K hown1 hg1 hb1 hat1 hA
                              (try simp only [Act.put, List.setIfInBounds_toArray, List.set_cons_zero, List.set_cons_succ])
                              have hA := hA2
                              clear hA2
                              refine wpAnyH_take (i := 20) (oi := ?oi_3) (v := ?v_3) ?ho_3 ?h1_3 ?h2_3 ?h3_3 ?hq_3 (Or.inl ⟨?hw_3, ?hy_3⟩) ?hs_3 ?rest_3; (case h2_3 => kernel_rfl); (case h3_3 => kernel_rfl); (case ho_3 => (simp only [List.getElem?_toArray, List.getElem?_cons_zero, List.getElem?_cons_succ]; rfl)); (case h1_3 => kernel_rfl); (case hq_3 => exact fun _ _ _ h => h); (case hw_3 => rfl); (case hy_3 => (intro w' hSw; refine exec_built (t := 35) (cs := #[.slice A2 (m0 + 1) c2, .int .i64 TT, .int .i64 0]) (parts := #[(0, .tmp 95), (1, .tmp 103)]) ?_ ?_ w'; exact rfl; simp only [List.map_toArray, List.map_cons, List.map_nil]; exact built_wy _ _ _ _)); (case hs_3 => assumption); (try simp only [Act.put, List.setIfInBounds_toArray, List.set_cons_zero, List.set_cons_succ])

                              refine wpAnyH_ready (rs := [21]) (by kernel_rfl) (by simp) (AllReadyH.cons (o := ?oo21_22) ?hoo21_22 (fun K hK => ?steponly22) AllReadyH.nil); (case hoo21_22 => (simp only [List.getElem?_toArray, List.getElem?_cons_zero, List.getElem?_cons_succ]; rfl))
                              refine step_new rfl hwz rfl ?_
                              refine Ap.goP hA ?_
                              intro V5 gs hA2
                              refine hK.out _ _ hA2.below (fun _ => ?_)
                              clear hK K hA
                              (try simp only [Act.put, List.setIfInBounds_toArray, List.set_cons_zero, List.set_cons_succ])
                              have hA := hA2
                              clear hA2
                              refine wpAnyH_ready (rs := [22]) (by kernel_rfl) (by simp) (AllReadyH.cons (o := ?oo22_23) ?hoo22_23 (fun K hK => ?steponly23) AllReadyH.nil); (case hoo22_23 => (simp only [List.getElem?_toArray, List.getElem?_cons_zero, List.getElem?_cons_succ]; rfl))
                              refine step_row rfl 35 (.tmp 13) (.tmp 104) rfl gs #[.slice A2 (m0 + 1) c2, .int .i64 TT, .int .i64 0] rfl rfl _ zw (hA.blk gs _ (List.Mem.head _)).1 (wy_inf _ _ _ _) (wy_zs hz3 _ _ _ _) (wy_on _ _ _ _) ?_
                              obtain ⟨hb1, hown1, hblk1, hne1, hge1⟩ := hA.row (List.Mem.head _) #[.slice A2 (m0 + 1) c2, .int .i64 TT, .int .i64 0]
                              refine hK.out _ _ hb1 (fun _ => ?_)
                              clear hK K hA
                              (try simp only [Act.put, List.setIfInBounds_toArray, List.set_cons_zero, List.set_cons_succ])
                              refine wpAnyH_done (by kernel_rfl) ?_ _
                              have HE := Lib.hid (And.intro hb1 (And.intro hown1 (And.intro hblk1 (And.intro hne1 hge1))))
                              clear hb1 hown1 hblk1 hne1 hge1 hsrc r1 r2 r3 hS0
                              go_wp2_with fail
                              go_meet
                              obtain ⟨hb1, hown1, hblk1, hne1, hge1⟩ := HE.out
                              exact ap_out rfl hb1 hown1 hblk1 hne1 hge1 HEN.out.1 HEN.out.2
                            case stepQD21 =>
                              refine step_new rfl hwz rfl ?_
                              refine Ap.goP hA ?_
                              intro V4 gs hA2
                              refine hK.out _ _ hA2.below (fun _ => ?_)
                              clear hK K hA
                              (try simp only [Act.put, List.setIfInBounds_toArray, List.set_cons_zero, List.set_cons_succ])
                              have hA := hA2
                              clear hA2
                              refine wpAnyH_ready (rs := [11]) (by kernel_rfl) (by simp) (AllReadyH.cons (o := ?oo11_24) ?hoo11_24 (fun K hK => ?steponly24) AllReadyH.nil); (case hoo11_24 => (simp only [List.getElem?_toArray, List.getElem?_cons_zero, List.getElem?_cons_succ]; rfl))
                              refine step_app _ rfl (.tmp 90) (.tmp 94) 33 rfl (base := Z.heap.size) Try.underlying33 elemI rfl hA.own rfl (Sl.new (sz := 1) (n := 1) (hA.blk gb _ (List.Mem.tail _ (List.Mem.head _))).1 rfl) (one_ivs [(ak : Int)]) (by simp only [maxLen]; omega) (by omega) hA.ge ?_
                              intro A2 c2 w5 hown1 hg1 hb1 hat1
                              have hA2 := hA.app hown1 hg1 hb1 hat1
                              refine hK.out _ _ hA2.below (fun _ => ?_)
                              clear hK K hown1 hg1 hb1 hat1 hA
                              (try simp only [Act.put, List.setIfInBounds_toArray, List.set_cons_zero, List.set_cons_succ])
                              have hA := hA2
                              clear hA2
                              refine wpAnyH_take (i := 20) (oi := ?oi_4) (v := ?v_4) ?ho_4 ?h1_4 ?h2_4 ?h3_4 ?hq_4 (Or.inl ⟨?hw_4, ?hy_4⟩) ?hs_4 ?rest_4; (case h2_4 => kernel_rfl); (case h3_4 => kernel_rfl); (case ho_4 => (simp only [List.getElem?_toArray, List.getElem?_cons_zero, List.getElem?_cons_succ]; rfl)); (case h1_4 => kernel_rfl); (case hq_4 => exact fun _ _ _ h => h); (case hw_4 => rfl); (case hy_4 => (intro w' hSw; refine exec_built (t := 35) (cs := #[.slice A2 (m0 + 1) c2, .int .i64 TT, .int .i64 0]) (parts := #[(0, .tmp 95), (1, .tmp 103)]) ?_ ?_ w'; exact rfl; simp only [List.map_toArray, List.map_cons, List.map_nil]; exact built_wy _ _ _ _)); (case hs_4 => assumption); (try simp only [Act.put, List.setIfInBounds_toArray, List.set_cons_zero, List.set_cons_succ])

                              refine wpAnyH_ready (rs := [22]) (by kernel_rfl) (by simp) (AllReadyH.cons (o := ?oo22_25) ?hoo22_25 (fun K hK => ?steponly25) AllReadyH.nil); (case hoo22_25 => (simp only [List.getElem?_toArray, List.getElem?_cons_zero, List.getElem?_cons_succ]; rfl))
                              refine step_row rfl 35 (.tmp 13) (.tmp 104) rfl gs #[.slice A2 (m0 + 1) c2, .int .i64 TT, .int .i64 0] rfl rfl _ zw (hA.blk gs _ (List.Mem.head _)).1 (wy_inf _ _ _ _) (wy_zs hz3 _ _ _ _) (wy_on _ _ _ _) ?_
                              obtain ⟨hb1, hown1, hblk1, hne1, hge1⟩ := hA.row (List.Mem.head _) #[.slice A2 (m0 + 1) c2, .int .i64 TT, .int .i64 0]
                              refine hK.out _ _ hb1 (fun _ => ?_)
                              clear hK K hA
                              (try simp only [Act.put, List.setIfInBounds_toArray, List.set_cons_zero, List.set_cons_succ])
                              refine wpAnyH_done (by kernel_rfl) ?_ _
                              have HE := Lib.hid (And.intro hb1 (And.intro hown1 (And.intro hblk1 (And.intro hne1 hge1))))
                              clear hb1 hown1 hblk1 hne1 hge1 hsrc r1 r2 r3 hS0
                              go_wp2_with fail
                              go_meet
                              obtain ⟨hb1, hown1, hblk1, hne1, hge1⟩ := HE.out
                              exact ap_out rfl hb1 hown1 hblk1 hne1 hge1 HEN.out.1 HEN.out.2
                          case stepQC21 =>
                            refine step_new rfl hwz rfl ?_
                            refine Ap.goP hA ?_
                            intro V3 gs hA2
                            refine hK.out _ _ hA2.below (fun _ => ?_)
                            clear hK K hA
                            (try simp only [Act.put, List.setIfInBounds_toArray, List.set_cons_zero, List.set_cons_succ])
                            have hA := hA2
                            clear hA2
                            refine wpAnyH_ready (rs := [10]) (by kernel_rfl) (by simp) (AllReadyH.cons (o := ?oo10_26) ?hoo10_26 (fun K hK => ?steponly26) AllReadyH.nil); (case hoo10_26 => (simp only [List.getElem?_toArray, List.getElem?_cons_zero, List.getElem?_cons_succ]; rfl))
                            refine step_slice rfl 33 1 #[(0, .tmp 93)] rfl (by simp only [List.map_toArray, List.map_cons, List.map_nil]; exact ints1 (ak : Int) V3) ?_
                            refine Ap.go1 hA ?_
                            intro V4 gb hA2
                            refine hK.out _ _ hA2.below (fun _ => ?_)
                            clear hK K hA
                            (try simp only [Act.put, List.setIfInBounds_toArray, List.set_cons_zero, List.set_cons_succ])
                            have hA := hA2
                            clear hA2
                            refine wpAnyH_ready (rs := [11]) (by kernel_rfl) (by simp) (AllReadyH.cons (o := ?oo11_27) ?hoo11_27 (fun K hK => ?steponly27) AllReadyH.nil); (case hoo11_27 => (simp only [List.getElem?_toArray, List.getElem?_cons_zero, List.getElem?_cons_succ]; rfl))
                            refine step_app _ rfl (.tmp 90) (.tmp 94) 33 rfl (base := Z.heap.size) Try.underlying33 elemI rfl hA.own rfl (Sl.new (sz := 1) (n := 1) (hA.blk gb _ (List.Mem.head _)).1 rfl) (one_ivs [(ak : Int)]) (by simp only [maxLen]; omega) (by omega) hA.ge ?_
                            intro A2 c2 w5 hown1 hg1 hb1 hat1
                            have hA2 := hA.app hown1 hg1 hb1 hat1
                            refine hK.out _ _ hA2.below (fun _ => ?_)
                            clear hK K hown1 hg1 hb1 hat1 hA
                            (try simp only [Act.put, List.setIfInBounds_toArray, List.set_cons_zero, List.set_cons_succ])
                            have hA := hA2
                            clear hA2
                            refine wpAnyH_take (i := 20) (oi := ?oi_5) (v := ?v_5) ?ho_5 ?h1_5 ?h2_5 ?h3_5 ?hq_5 (Or.inl ⟨?hw_5, ?hy_5⟩) ?hs_5 ?rest_5; (case h2_5 => kernel_rfl); (case h3_5 => kernel_rfl); (case ho_5 => (simp only [List.getElem?_toArray, List.getElem?_cons_zero, List.getElem?_cons_succ]; rfl)); (case h1_5 => kernel_rfl); (case hq_5 => exact fun _ _ _ h => h); (case hw_5 => rfl); (case hy_5 => (intro w' hSw; refine exec_built (t := 35) (cs := #[.slice A2 (m0 + 1) c2, .int .i64 TT, .int .i64 0]) (parts := #[(0, .tmp 95), (1, .tmp 103)]) ?_ ?_ w'; exact rfl; simp only [List.map_toArray, List.map_cons, List.map_nil]; exact built_wy _ _ _ _)); (case hs_5 => assumption); (try simp only [Act.put, List.setIfInBounds_toArray, List.set_cons_zero, List.set_cons_succ])

                            refine wpAnyH_ready (rs := [22]) (by kernel_rfl) (by simp) (AllReadyH.cons (o := ?oo22_28) ?hoo22_28 (fun K hK => ?steponly28) AllReadyH.nil); (case hoo22_28 => (simp only [List.getElem?_toArray, List.getElem?_cons_zero, List.getElem?_cons_succ]; rfl))
                            refine step_row rfl 35 (.tmp 13) (.tmp 104) rfl gs #[.slice A2 (m0 + 1) c2, .int .i64 TT, .int .i64 0] rfl rfl _ zw (hA.blk gs _ (List.Mem.tail _ (List.Mem.head _))).1 (wy_inf _ _ _ _) (wy_zs hz3 _ _ _ _) (wy_on _ _ _ _) ?_
                            obtain ⟨hb1, hown1, hblk1, hne1, hge1⟩ := hA.row (List.Mem.tail _ (List.Mem.head _)) #[.slice A2 (m0 + 1) c2, .int .i64 TT, .int .i64 0]
                            refine hK.out _ _ hb1 (fun _ => ?_)
                            clear hK K hA
                            (try simp only [Act.put, List.setIfInBounds_toArray, List.set_cons_zero, List.set_cons_succ])
                            refine wpAnyH_done (by kernel_rfl) ?_ _
                            have HE := Lib.hid (And.intro hb1 (And.intro hown1 (And.intro hblk1 (And.intro hne1 hge1))))
                            clear hb1 hown1 hblk1 hne1 hge1 hsrc r1 r2 r3 hS0
                            go_wp2_with fail
                            go_meet
                            obtain ⟨hb1, hown1, hblk1, hne1, hge1⟩ := HE.out
                            exact ap_out rfl hb1 hown1 hblk1 hne1 hge1 HEN.out.1 HEN.out.2
                        case stepQB10 =>
                          refine step_slice rfl 33 1 #[(0, .tmp 93)] rfl (by simp only [List.map_toArray, List.map_cons, List.map_nil]; exact ints1 (ak : Int) V1) ?_
                          refine Ap.go1 hA ?_
                          intro V2 gb hA2
                          refine hK.out _ _ hA2.below (fun _ => ?_)
                          clear hK K hA
                          (try simp only [Act.put, List.setIfInBounds_toArray, List.set_cons_zero, List.set_cons_succ])
                          have hA := hA2
                          clear hA2
                          refine wpAnyH_ready (rs := [6, 21]) (by kernel_rfl) (by simp) (AllReadyH.cons (o := ?oo6_29) ?hoo6_29 (fun K hK => ?stepQE6) (AllReadyH.cons (o := ?oo21_29) ?hoo21_29 (fun K hK => ?stepQE21) AllReadyH.nil)); (case hoo6_29 => (simp only [List.getElem?_toArray, List.getElem?_cons_zero, List.getElem?_cons_succ]; rfl)); (case hoo21_29 => (simp only [List.getElem?_toArray, List.getElem?_cons_zero, List.getElem?_cons_succ]; rfl))
                          case stepQE6 =>
                            refine step_app _ rfl (.tmp 84) (.tmp 89) 33 rfl (base := Z.heap.size) Try.underlying33 elemI rfl hA.own rfl (hsrc.below hA.below) (one_ivs _) (by simp only [maxLen]; omega) (by omega) hA.ge ?_
                            intro A1 c1 w3 hown1 hg1 hb1 hat1
                            simp only [Nat.zero_add, List.nil_append] at hown1 hat1 ⊢
                            have hA2 := hA.app hown1 hg1 hb1 hat1
                            refine hK.out _ _ hA2.below (fun _ => ?_)
                            clear hK K hown1 hg1 hb1 hat1 hA
                            (try simp only [Act.put, List.setIfInBounds_toArray, List.set_cons_zero, List.set_cons_succ])
                            have hA := hA2
                            clear hA2
                            refine wpAnyH_ready (rs := [11, 21]) (by kernel_rfl) (by simp) (AllReadyH.cons (o := ?oo11_30) ?hoo11_30 (fun K hK => ?stepQF11) (AllReadyH.cons (o := ?oo21_30) ?hoo21_30 (fun K hK => ?stepQF21) AllReadyH.nil)); (case hoo11_30 => (simp only [List.getElem?_toArray, List.getElem?_cons_zero, List.getElem?_cons_succ]; rfl)); (case hoo21_30 => (simp only [List.getElem?_toArray, List.getElem?_cons_zero, List.getElem?_cons_succ]; rfl))
                            case stepQF11 =>
                              refine step_app _ rfl (.tmp 90) (.tmp 94) 33 rfl (base := Z.heap.size) Try.underlying33 elemI rfl hA.own rfl (Sl.new (sz := 1) (n := 1) (hA.blk gb _ (List.Mem.head _)).1 rfl) (one_ivs [(ak : Int)]) (by simp only [maxLen]; omega) (by omega) hA.ge ?_
                              intro A2 c2 w4 hown1 hg1 hb1 hat1
                              have hA2 := hA.app hown1 hg1 hb1 hat1
                              refine hK.out _ _ hA2.below (fun _ => ?_)
                              clear hK K hown1 hg1 hb1 hat1 hA
                              (try simp only [Act.put, List.setIfInBounds_toArray, List.set_cons_zero, List.set_cons_succ])
                              have hA := hA2
                              clear hA2
                              refine wpAnyH_take (i := 20) (oi := ?oi_6) (v := ?v_6) ?ho_6 ?h1_6 ?h2_6 ?h3_6 ?hq_6 (Or.inl ⟨?hw_6, ?hy_6⟩) ?hs_6 ?rest_6; (case h2_6 => kernel_rfl); (case h3_6 => kernel_rfl); (case ho_6 => (simp only [List.getElem?_toArray, List.getElem?_cons_zero, List.getElem?_cons_succ]; rfl)); (case h1_6 => kernel_rfl); (case hq_6 => exact fun _ _ _ h => h); (case hw_6 => rfl); (case hy_6 => (intro w' hSw; refine exec_built (t := 35) (cs := #[.slice A2 (m0 + 1) c2, .int .i64 TT, .int .i64 0]) (parts := #[(0, .tmp 95), (1, .tmp 103)]) ?_ ?_ w'; exact rfl; simp only [List.map_toArray, List.map_cons, List.map_nil]; exact built_wy _ _ _ _)); (case hs_6 => assumption); (try simp only [Act.put, List.setIfInBounds_toArray, List.set_cons_zero, List.set_cons_succ])

                              refine wpAnyH_ready (rs := [21]) (by kernel_rfl) (by simp) (AllReadyH.cons (o := ?oo21_31) ?hoo21_31 (fun K hK => ?steponly31) AllReadyH.nil); (case hoo21_31 => (simp only [List.getElem?_toArray, List.getElem?_cons_zero, List.getElem?_cons_succ]; rfl))
                              refine step_new rfl hwz rfl ?_
                              refine Ap.goP hA ?_
                              intro V5 gs hA2
                              refine hK.out _ _ hA2.below (fun _ => ?_)
                              clear hK K hA
                              (try simp only [Act.put, List.setIfInBounds_toArray, List.set_cons_zero, List.set_cons_succ])
                              have hA := hA2
                              clear hA2
                              refine wpAnyH_ready (rs := [22]) (by kernel_rfl) (by simp) (AllReadyH.cons (o := ?oo22_32) ?hoo22_32 (fun K hK => ?steponly32) AllReadyH.nil); (case hoo22_32 => (simp only [List.getElem?_toArray, List.getElem?_cons_zero, List.getElem?_cons_succ]; rfl))
                              refine step_row rfl 35 (.tmp 13) (.tmp 104) rfl gs #[.slice A2 (m0 + 1) c2, .int .i64 TT, .int .i64 0] rfl rfl _ zw (hA.blk gs _ (List.Mem.head _)).1 (wy_inf _ _ _ _) (wy_zs hz3 _ _ _ _) (wy_on _ _ _ _) ?_
                              obtain ⟨hb1, hown1, hblk1, hne1, hge1⟩ := hA.row (List.Mem.head _) #[.slice A2 (m0 + 1) c2, .int .i64 TT, .int .i64 0]
                              refine hK.out _ _ hb1 (fun _ => ?_)
                              clear hK K hA
                              (try simp only [Act.put, List.setIfInBounds_toArray, List.set_cons_zero, List.set_cons_succ])
                              refine wpAnyH_done (by kernel_rfl) ?_ _
                              have HE := Lib.hid (And.intro hb1 (And.intro hown1 (And.intro hblk1 (And.intro hne1 hge1))))
                              clear hb1 hown1 hblk1 hne1 hge1 hsrc r1 r2 r3 hS0
                              go_wp2_with fail
                              go_meet
                              obtain ⟨hb1, hown1, hblk1, hne1, hge1⟩ := HE.out
                              exact ap_out rfl hb1 hown1 hblk1 hne1 hge1 HEN.out.1 HEN.out.2
                            case stepQF21 =>
                              refine step_new rfl hwz rfl ?_
                              refine Ap.goP hA ?_
                              intro V4 gs hA2
                              refine hK.out _ _ hA2.below (fun _ => ?_)
                              clear hK K hA
                              (try simp only [Act.put, List.setIfInBounds_toArray, List.set_cons_zero, List.set_cons_succ])
                              have hA := hA2
                              clear hA2
                              refine wpAnyH_ready (rs := [11]) (by kernel_rfl) (by simp) (AllReadyH.cons (o := ?oo11_33) ?hoo11_33 (fun K hK => ?steponly33) AllReadyH.nil); (case hoo11_33 => (simp only [List.getElem?_toArray, List.getElem?_cons_zero, List.getElem?_cons_succ]; rfl))
                              refine step_app _ rfl (.tmp 90) (.tmp 94) 33 rfl (base := Z.heap.size) Try.underlying33 elemI rfl hA.own rfl (Sl.new (sz := 1) (n := 1) (hA.blk gb _ (List.Mem.tail _ (List.Mem.head _))).1 rfl) (one_ivs [(ak : Int)]) (by simp only [maxLen]; omega) (by omega) hA.ge ?_
                              intro A2 c2 w5 hown1 hg1 hb1 hat1
                              have hA2 := hA.app hown1 hg1 hb1 hat1
                              refine hK.out _ _ hA2.below (fun _ => ?_)
                              clear hK K hown1 hg1 hb1 hat1 hA
                              (try simp only [Act.put, List.setIfInBounds_toArray, List.set_cons_zero, List.set_cons_succ])
                              have hA := hA2
                              clear hA2
                              refine wpAnyH_take (i := 20) (oi := ?oi_7) (v := ?v_7) ?ho_7 ?h1_7 ?h2_7 ?h3_7 ?hq_7 (Or.inl ⟨?hw_7, ?hy_7⟩) ?hs_7 ?rest_7; (case h2_7 => kernel_rfl); (case h3_7 => kernel_rfl); (case ho_7 => (simp only [List.getElem?_toArray, List.getElem?_cons_zero, List.getElem?_cons_succ]; rfl)); (case h1_7 => kernel_rfl); (case hq_7 => exact fun _ _ _ h => h); (case hw_7 => rfl); (case hy_7 => (intro w' hSw; refine exec_built (t := 35) (cs := #[.slice A2 (m0 + 1) c2, .int .i64 TT, .int .i64 0]) (parts := #[(0, .tmp 95), (1, .tmp 103)]) ?_ ?_ w'; exact rfl; simp only [List.map_toArray, List.map_cons, List.map_nil]; exact built_wy _ _ _ _)); (case hs_7 => assumption); (try simp only [Act.put, List.setIfInBounds_toArray, List.set_cons_zero, List.set_cons_succ])

                              refine wpAnyH_ready (rs := [22]) (by kernel_rfl) (by simp) (AllReadyH.cons (o := ?oo22_34) ?hoo22_34 (fun K hK => ?steponly34) AllReadyH.nil); (case hoo22_34 => (simp only [List.getElem?_toArray, List.getElem?_cons_zero, List.getElem?_cons_succ]; rfl))
                              refine step_row rfl 35 (.tmp 13) (.tmp 104) rfl gs #[.slice A2 (m0 + 1) c2, .int .i64 TT, .int .i64 0] rfl rfl _ zw (hA.blk gs _ (List.Mem.head _)).1 (wy_inf _ _ _ _) (wy_zs hz3 _ _ _ _) (wy_on _ _ _ _) ?_
                              obtain ⟨hb1, hown1, hblk1, hne1, hge1⟩ := hA.row (List.Mem.head _) #[.slice A2 (m0 + 1) c2, .int .i64 TT, .int .i64 0]
                              refine hK.out _ _ hb1 (fun _ => ?_)
                              clear hK K hA
                              (try simp only [Act.put, List.setIfInBounds_toArray, List.set_cons_zero, List.set_cons_succ])
                              refine wpAnyH_done (by kernel_rfl) ?_ _
                              have HE := Lib.hid (And.intro hb1 (And.intro hown1 (And.intro hblk1 (And.intro hne1 hge1))))
                              clear hb1 hown1 hblk1 hne1 hge1 hsrc r1 r2 r3 hS0
                              go_wp2_with fail
                              go_meet
                              obtain ⟨hb1, hown1, hblk1, hne1, hge1⟩ := HE.out
                              exact ap_out rfl hb1 hown1 hblk1 hne1 hge1 HEN.out.1 HEN.out.2
                          case stepQE21 =>
                            refine step_new rfl hwz rfl ?_
                            refine Ap.goP hA ?_
                            intro V3 gs hA2
                            refine hK.out _ _ hA2.below (fun _ => ?_)
                            clear hK K hA
                            (try simp only [Act.put, List.setIfInBounds_toArray, List.set_cons_zero, List.set_cons_succ])
                            have hA := hA2
                            clear hA2
                            refine wpAnyH_ready (rs := [6]) (by kernel_rfl) (by simp) (AllReadyH.cons (o := ?oo6_35) ?hoo6_35 (fun K hK => ?steponly35) AllReadyH.nil); (case hoo6_35 => (simp only [List.getElem?_toArray, List.getElem?_cons_zero, List.getElem?_cons_succ]; rfl))
                            refine step_app _ rfl (.tmp 84) (.tmp 89) 33 rfl (base := Z.heap.size) Try.underlying33 elemI rfl hA.own rfl (hsrc.below hA.below) (one_ivs _) (by simp only [maxLen]; omega) (by omega) hA.ge ?_
                            intro A1 c1 w4 hown1 hg1 hb1 hat1
                            simp only [Nat.zero_add, List.nil_append] at hown1 hat1 ⊢
                            have hA2 := hA.app hown1 hg1 hb1 hat1
                            refine hK.out _ _ hA2.below (fun _ => ?_)
                            clear hK K hown1 hg1 hb1 hat1 hA
                            (try simp only [Act.put, List.setIfInBounds_toArray, List.set_cons_zero, List.set_cons_succ])
                            have hA := hA2
                            clear hA2
                            refine wpAnyH_ready (rs := [11]) (by kernel_rfl) (by simp) (AllReadyH.cons (o := ?oo11_36) ?hoo11_36 (fun K hK => ?steponly36) AllReadyH.nil); (case hoo11_36 => (simp only [List.getElem?_toArray, List.getElem?_cons_zero, List.getElem?_cons_succ]; rfl))
                            refine step_app _ rfl (.tmp 90) (.tmp 94) 33 rfl (base := Z.heap.size) Try.underlying33 elemI rfl hA.own rfl (Sl.new (sz := 1) (n := 1) (hA.blk gb _ (List.Mem.tail _ (List.Mem.head _))).1 rfl) (one_ivs [(ak : Int)]) (by simp only [maxLen]; omega) (by omega) hA.ge ?_
                            intro A2 c2 w5 hown1 hg1 hb1 hat1
                            have hA2 := hA.app hown1 hg1 hb1 hat1
                            refine hK.out _ _ hA2.below (fun _ => ?_)
                            clear hK K hown1 hg1 hb1 hat1 hA
                            (try simp only [Act.put, List.setIfInBounds_toArray, List.set_cons_zero, List.set_cons_succ])
                            have hA := hA2
                            clear hA2
                            refine wpAnyH_take (i := 20) (oi := ?oi_8) (v := ?v_8) ?ho_8 ?h1_8 ?h2_8 ?h3_8 ?hq_8 (Or.inl ⟨?hw_8, ?hy_8⟩) ?hs_8 ?rest_8; (case h2_8 => kernel_rfl); (case h3_8 => kernel_rfl); (case ho_8 => (simp only [List.getElem?_toArray, List.getElem?_cons_zero, List.getElem?_cons_succ]; rfl)); (case h1_8 => kernel_rfl); (case hq_8 => exact fun _ _ _ h => h); (case hw_8 => rfl); (case hy_8 => (intro w' hSw; refine exec_built (t := 35) (cs := #[.slice A2 (m0 + 1) c2, .int .i64 TT, .int .i64 0]) (parts := #[(0, .tmp 95), (1, .tmp 103)]) ?_ ?_ w'; exact rfl; simp only [List.map_toArray, List.map_cons, List.map_nil]; exact built_wy _ _ _ _)); (case hs_8 => assumption); (try simp only [Act.put, List.setIfInBounds_toArray, List.set_cons_zero, List.set_cons_succ])

                            refine wpAnyH_ready (rs := [22]) (by kernel_rfl) (by simp) (AllReadyH.cons (o := ?oo22_37) ?hoo22_37 (fun K hK => ?steponly37) AllReadyH.nil); (case hoo22_37 => (simp only [List.getElem?_toArray, List.getElem?_cons_zero, List.getElem?_cons_succ]; rfl))
                            refine step_row rfl 35 (.tmp 13) (.tmp 104) rfl gs #[.slice A2 (m0 + 1) c2, .int .i64 TT, .int .i64 0] rfl rfl _ zw (hA.blk gs _ (List.Mem.head _)).1 (wy_inf _ _ _ _) (wy_zs hz3 _ _ _ _) (wy_on _ _ _ _) ?_
                            obtain ⟨hb1, hown1, hblk1, hne1, hge1⟩ := hA.row (List.Mem.head _) #[.slice A2 (m0 + 1) c2, .int .i64 TT, .int .i64 0]
                            refine hK.out _ _ hb1 (fun _ => ?_)
                            clear hK K hA
                            (try simp only [Act.put, List.setIfInBounds_toArray, List.set_cons_zero, List.set_cons_succ])
                            refine wpAnyH_done (by kernel_rfl) ?_ _
                            have HE := Lib.hid (And.intro hb1 (And.intro hown1 (And.intro hblk1 (And.intro hne1 hge1))))
                            clear hb1 hown1 hblk1 hne1 hge1 hsrc r1 r2 r3 hS0
                            go_wp2_with fail
                            go_meet
                            obtain ⟨hb1, hown1, hblk1, hne1, hge1⟩ := HE.out
                            exact ap_out rfl hb1 hown1 hblk1 hne1 hge1 HEN.out.1 HEN.out.2
                        case stepQB21 =>
                          refine step_new rfl hwz rfl ?_
                          refine Ap.goP hA ?_
                          intro V2 gs hA2
                          refine hK.out _ _ hA2.below (fun _ => ?_)
                          clear hK K hA
                          (try simp only [Act.put, List.setIfInBounds_toArray, List.set_cons_zero, List.set_cons_succ])
                          have hA := hA2
                          clear hA2
                          refine wpAnyH_ready (rs := [6, 10]) (by kernel_rfl) (by simp) (AllReadyH.cons (o := ?oo6_38) ?hoo6_38 (fun K hK => ?stepQG6) (AllReadyH.cons (o := ?oo10_38) ?hoo10_38 (fun K hK => ?stepQG10) AllReadyH.nil)); (case hoo6_38 => (simp only [List.getElem?_toArray, List.getElem?_cons_zero, List.getElem?_cons_succ]; rfl)); (case hoo10_38 => (simp only [List.getElem?_toArray, List.getElem?_cons_zero, List.getElem?_cons_succ]; rfl))
                          case stepQG6 =>
                            refine step_app _ rfl (.tmp 84) (.tmp 89) 33 rfl (base := Z.heap.size) Try.underlying33 elemI rfl hA.own rfl (hsrc.below hA.below) (one_ivs _) (by simp only [maxLen]; omega) (by omega) hA.ge ?_
                            intro A1 c1 w3 hown1 hg1 hb1 hat1
                            simp only [Nat.zero_add, List.nil_append] at hown1 hat1 ⊢
                            have hA2 := hA.app hown1 hg1 hb1 hat1
                            refine hK.out _ _ hA2.below (fun _ => ?_)
                            clear hK K hown1 hg1 hb1 hat1 hA
                            (try simp only [Act.put, List.setIfInBounds_toArray, List.set_cons_zero, List.set_cons_succ])
                            have hA := hA2
                            clear hA2
                            refine wpAnyH_ready (rs := [10]) (by kernel_rfl) (by simp) (AllReadyH.cons (o := ?oo10_39) ?hoo10_39 (fun K hK => ?steponly39) AllReadyH.nil); (case hoo10_39 => (simp only [List.getElem?_toArray, List.getElem?_cons_zero, List.getElem?_cons_succ]; rfl))
                            refine step_slice rfl 33 1 #[(0, .tmp 93)] rfl (by simp only [List.map_toArray, List.map_cons, List.map_nil]; exact ints1 (ak : Int) w3) ?_
                            refine Ap.go1 hA ?_
                            intro V4 gb hA2
                            refine hK.out _ _ hA2.below (fun _ => ?_)
                            clear hK K hA
                            (try simp only [Act.put, List.setIfInBounds_toArray, List.set_cons_zero, List.set_cons_succ])
                            have hA := hA2
                            clear hA2
                            refine wpAnyH_ready (rs := [11]) (by kernel_rfl) (by simp) (AllReadyH.cons (o := ?oo11_40) ?hoo11_40 (fun K hK => ?steponly40) AllReadyH.nil); (case hoo11_40 => (simp only [List.getElem?_toArray, List.getElem?_cons_zero, List.getElem?_cons_succ]; rfl))
                            refine step_app _ rfl (.tmp 90) (.tmp 94) 33 rfl (base := Z.heap.size) Try.underlying33 elemI rfl hA.own rfl (Sl.new (sz := 1) (n := 1) (hA.blk gb _ (List.Mem.head _)).1 rfl) (one_ivs [(ak : Int)]) (by simp only [maxLen]; omega) (by omega) hA.ge ?_
                            intro A2 c2 w5 hown1 hg1 hb1 hat1
                            have hA2 := hA.app hown1 hg1 hb1 hat1
                            refine hK.out _ _ hA2.below (fun _ => ?_)
                            clear hK K hown1 hg1 hb1 hat1 hA
                            (try simp only [Act.put, List.setIfInBounds_toArray, List.set_cons_zero, List.set_cons_succ])
                            have hA := hA2
                            clear hA2
                            refine wpAnyH_take (i := 20) (oi := ?oi_9) (v := ?v_9) ?ho_9 ?h1_9 ?h2_9 ?h3_9 ?hq_9 (Or.inl ⟨?hw_9, ?hy_9⟩) ?hs_9 ?rest_9; (case h2_9 => kernel_rfl); (case h3_9 => kernel_rfl); (case ho_9 => (simp only [List.getElem?_toArray, List.getElem?_cons_zero, List.getElem?_cons_succ]; rfl)); (case h1_9 => kernel_rfl); (case hq_9 => exact fun _ _ _ h => h); (case hw_9 => rfl); (case hy_9 => (intro w' hSw; refine exec_built (t := 35) (cs := #[.slice A2 (m0 + 1) c2, .int .i64 TT, .int .i64 0]) (parts := #[(0, .tmp 95), (1, .tmp 103)]) ?_ ?_ w'; exact rfl; simp only [List.map_toArray, List.map_cons, List.map_nil]; exact built_wy _ _ _ _)); (case hs_9 => assumption); (try simp only [Act.put, List.setIfInBounds_toArray, List.set_cons_zero, List.set_cons_succ])

                            refine wpAnyH_ready (rs := [22]) (by kernel_rfl) (by simp) (AllReadyH.cons (o := ?oo22_41) ?hoo22_41 (fun K hK => ?steponly41) AllReadyH.nil); (case hoo22_41 => (simp only [List.getElem?_toArray, List.getElem?_cons_zero, List.getElem?_cons_succ]; rfl))
                            refine step_row rfl 35 (.tmp 13) (.tmp 104) rfl gs #[.slice A2 (m0 + 1) c2, .int .i64 TT, .int .i64 0] rfl rfl _ zw (hA.blk gs _ (List.Mem.tail _ (List.Mem.head _))).1 (wy_inf _ _ _ _) (wy_zs hz3 _ _ _ _) (wy_on _ _ _ _) ?_
                            obtain ⟨hb1, hown1, hblk1, hne1, hge1⟩ := hA.row (List.Mem.tail _ (List.Mem.head _)) #[.slice A2 (m0 + 1) c2, .int .i64 TT, .int .i64 0]
                            refine hK.out _ _ hb1 (fun _ => ?_)
                            clear hK K hA
                            (try simp only [Act.put, List.setIfInBounds_toArray, List.set_cons_zero, List.set_cons_succ])
                            refine wpAnyH_done (by kernel_rfl) ?_ _
                            have HE := Lib.hid (And.intro hb1 (And.intro hown1 (And.intro hblk1 (And.intro hne1 hge1))))
                            clear hb1 hown1 hblk1 hne1 hge1 hsrc r1 r2 r3 hS0
                            go_wp2_with fail
                            go_meet
                            obtain ⟨hb1, hown1, hblk1, hne1, hge1⟩ := HE.out
                            exact ap_out rfl hb1 hown1 hblk1 hne1 hge1 HEN.out.1 HEN.out.2
                          case stepQG10 =>
                            refine step_slice rfl 33 1 #[(0, .tmp 93)] rfl (by simp only [List.map_toArray, List.map_cons, List.map_nil]; exact ints1 (ak : Int) V2) ?_
                            refine Ap.go1 hA ?_
                            intro V3 gb hA2
                            refine hK.out _ _ hA2.below (fun _ => ?_)
                            clear hK K hA
                            (try simp only [Act.put, List.setIfInBounds_toArray, List.set_cons_zero, List.set_cons_succ])
                            have hA := hA2
                            clear hA2
                            refine wpAnyH_ready (rs := [6]) (by kernel_rfl) (by simp) (AllReadyH.cons (o := ?oo6_42) ?hoo6_42 (fun K hK => ?steponly42) AllReadyH.nil); (case hoo6_42 => (simp only [List.getElem?_toArray, List.getElem?_cons_zero, List.getElem?_cons_succ]; rfl))
                            refine step_app _ rfl (.tmp 84) (.tmp 89) 33 rfl (base := Z.heap.size) Try.underlying33 elemI rfl hA.own rfl (hsrc.below hA.below) (one_ivs _) (by simp only [maxLen]; omega) (by omega) hA.ge ?_
                            intro A1 c1 w4 hown1 hg1 hb1 hat1
                            simp only [Nat.zero_add, List.nil_append] at hown1 hat1 ⊢
                            have hA2 := hA.app hown1 hg1 hb1 hat1
                            refine hK.out _ _ hA2.below (fun _ => ?_)
                            clear hK K hown1 hg1 hb1 hat1 hA
                            (try simp only [Act.put, List.setIfInBounds_toArray, List.set_cons_zero, List.set_cons_succ])
                            have hA := hA2
                            clear hA2
                            refine wpAnyH_ready (rs := [11]) (by kernel_rfl) (by simp) (AllReadyH.cons (o := ?oo11_43) ?hoo11_43 (fun K hK => ?steponly43) AllReadyH.nil); (case hoo11_43 => (simp only [List.getElem?_toArray, List.getElem?_cons_zero, List.getElem?_cons_succ]; rfl))
                            refine step_app _ rfl (.tmp 90) (.tmp 94) 33 rfl (base := Z.heap.size) Try.underlying33 elemI rfl hA.own rfl (Sl.new (sz := 1) (n := 1) (hA.blk gb _ (List.Mem.head _)).1 rfl) (one_ivs [(ak : Int)]) (by simp only [maxLen]; omega) (by omega) hA.ge ?_
                            intro A2 c2 w5 hown1 hg1 hb1 hat1
                            have hA2 := hA.app hown1 hg1 hb1 hat1
                            refine hK.out _ _ hA2.below (fun _ => ?_)
                            clear hK K hown1 hg1 hb1 hat1 hA
                            (try simp only [Act.put, List.setIfInBounds_toArray, List.set_cons_zero, List.set_cons_succ])
                            have hA := hA2
                            clear hA2
                            refine wpAnyH_take (i := 20) (oi := ?oi_10) (v := ?v_10) ?ho_10 ?h1_10 ?h2_10 ?h3_10 ?hq_10 (Or.inl ⟨?hw_10, ?hy_10⟩) ?hs_10 ?rest_10; (case h2_10 => kernel_rfl); (case h3_10 => kernel_rfl); (case ho_10 => (simp only [List.getElem?_toArray, List.getElem?_cons_zero, List.getElem?_cons_succ]; rfl)); (case h1_10 => kernel_rfl); (case hq_10 => exact fun _ _ _ h => h); (case hw_10 => rfl); (case hy_10 => (intro w' hSw; refine exec_built (t := 35) (cs := #[.slice A2 (m0 + 1) c2, .int .i64 TT, .int .i64 0]) (parts := #[(0, .tmp 95), (1, .tmp 103)]) ?_ ?_ w'; exact rfl; simp only [List.map_toArray, List.map_cons, List.map_nil]; exact built_wy _ _ _ _)); (case hs_10 => assumption); (try simp only [Act.put, List.setIfInBounds_toArray, List.set_cons_zero, List.set_cons_succ])

                            refine wpAnyH_ready (rs := [22]) (by kernel_rfl) (by simp) (AllReadyH.cons (o := ?oo22_44) ?hoo22_44 (fun K hK => ?steponly44) AllReadyH.nil); (case hoo22_44 => (simp only [List.getElem?_toArray, List.getElem?_cons_zero, List.getElem?_cons_succ]; rfl))
                            refine step_row rfl 35 (.tmp 13) (.tmp 104) rfl gs #[.slice A2 (m0 + 1) c2, .int .i64 TT, .int .i64 0] rfl rfl _ zw (hA.blk gs _ (List.Mem.tail _ (List.Mem.head _))).1 (wy_inf _ _ _ _) (wy_zs hz3 _ _ _ _) (wy_on _ _ _ _) ?_
                            obtain ⟨hb1, hown1, hblk1, hne1, hge1⟩ := hA.row (List.Mem.tail _ (List.Mem.head _)) #[.slice A2 (m0 + 1) c2, .int .i64 TT, .int .i64 0]
                            refine hK.out _ _ hb1 (fun _ => ?_)
                            clear hK K hA
                            (try simp only [Act.put, List.setIfInBounds_toArray, List.set_cons_zero, List.set_cons_succ])
                            refine wpAnyH_done (by kernel_rfl) ?_ _
                            have HE := Lib.hid (And.intro hb1 (And.intro hown1 (And.intro hblk1 (And.intro hne1 hge1))))
                            clear hb1 hown1 hblk1 hne1 hge1 hsrc r1 r2 r3 hS0
                            go_wp2_with fail
                            go_meet
                            obtain ⟨hb1, hown1, hblk1, hne1, hge1⟩ := HE.out
                            exact ap_out rfl hb1 hown1 hblk1 hne1 hge1 HEN.out.1 HEN.out.2
                      case stepQA10 =>
                        refine step_slice rfl 33 1 #[(0, .tmp 93)] rfl (by simp only [List.map_toArray, List.map_cons, List.map_nil]; exact ints1 (ak : Int) V0) ?_
                        refine Ap.go1 hA ?_
                        intro V1 gb hA2
                        refine hK.out _ _ hA2.below (fun _ => ?_)
                        clear hK K hA
                        (try simp only [Act.put, List.setIfInBounds_toArray, List.set_cons_zero, List.set_cons_succ])
                        have hA := hA2
                        clear hA2
                        refine wpAnyH_ready (rs := [0, 21]) (by kernel_rfl) (by simp) (AllReadyH.cons (o := ?oo0_45) ?hoo0_45 (fun K hK => ?stepQH0) (AllReadyH.cons (o := ?oo21_45) ?hoo21_45 (fun K hK => ?stepQH21) AllReadyH.nil)); (case hoo0_45 => (simp only [List.getElem?_toArray, List.getElem?_cons_zero, List.getElem?_cons_succ]; rfl)); (case hoo21_45 => (simp only [List.getElem?_toArray, List.getElem?_cons_zero, List.getElem?_cons_succ]; rfl))
                        case stepQH0 =>
                          refine step_slice rfl 33 0 #[] rfl (by simp only [List.map_toArray, List.map_nil]; exact ints0 V1) ?_
                          refine Ap.go0 hA ?_
                          intro V2 ga hA2
                          refine hK.out _ _ hA2.below (fun _ => ?_)
                          clear hK K hA
                          (try simp only [Act.put, List.setIfInBounds_toArray, List.set_cons_zero, List.set_cons_succ])
                          have hA := hA2
                          clear hA2
                          refine wpAnyH_ready (rs := [6, 21]) (by kernel_rfl) (by simp) (AllReadyH.cons (o := ?oo6_46) ?hoo6_46 (fun K hK => ?stepQI6) (AllReadyH.cons (o := ?oo21_46) ?hoo21_46 (fun K hK => ?stepQI21) AllReadyH.nil)); (case hoo6_46 => (simp only [List.getElem?_toArray, List.getElem?_cons_zero, List.getElem?_cons_succ]; rfl)); (case hoo21_46 => (simp only [List.getElem?_toArray, List.getElem?_cons_zero, List.getElem?_cons_succ]; rfl))
                          case stepQI6 =>
                            refine step_app _ rfl (.tmp 84) (.tmp 89) 33 rfl (base := Z.heap.size) Try.underlying33 elemI rfl hA.own rfl (hsrc.below hA.below) (one_ivs _) (by simp only [maxLen]; omega) (by omega) hA.ge ?_
                            intro A1 c1 w3 hown1 hg1 hb1 hat1
                            simp only [Nat.zero_add, List.nil_append] at hown1 hat1 ⊢
                            have hA2 := hA.app hown1 hg1 hb1 hat1
                            refine hK.out _ _ hA2.below (fun _ => ?_)
                            clear hK K hown1 hg1 hb1 hat1 hA
                            (try simp only [Act.put, List.setIfInBounds_toArray, List.set_cons_zero, List.set_cons_succ])
                            have hA := hA2
                            clear hA2
                            refine wpAnyH_ready (rs := [11, 21]) (by kernel_rfl) (by simp) (AllReadyH.cons (o := ?oo11_47) ?hoo11_47 (fun K hK => ?stepQJ11) (AllReadyH.cons (o := ?oo21_47) ?hoo21_47 (fun K hK => ?stepQJ21) AllReadyH.nil)); (case hoo11_47 => (simp only [List.getElem?_toArray, List.getElem?_cons_zero, List.getElem?_cons_succ]; rfl)); (case hoo21_47 => (simp only [List.getElem?_toArray, List.getElem?_cons_zero, List.getElem?_cons_succ]; rfl))
                            case stepQJ11 =>
                              refine step_app _ rfl (.tmp 90) (.tmp 94) 33 rfl (base := Z.heap.size) Try.underlying33 elemI rfl hA.own rfl (Sl.new (sz := 1) (n := 1) (hA.blk gb _ (List.Mem.head _)).1 rfl) (one_ivs [(ak : Int)]) (by simp only [maxLen]; omega) (by omega) hA.ge ?_
                              intro A2 c2 w4 hown1 hg1 hb1 hat1
                              have hA2 := hA.app hown1 hg1 hb1 hat1
                              refine hK.out _ _ hA2.below (fun _ => ?_)
                              clear hK K hown1 hg1 hb1 hat1 hA
                              (try simp only [Act.put, List.setIfInBounds_toArray, List.set_cons_zero, List.set_cons_succ])
                              have hA := hA2
                              clear hA2
                              refine wpAnyH_take (i := 20) (oi := ?oi_11) (v := ?v_11) ?ho_11 ?h1_11 ?h2_11 ?h3_11 ?hq_11 (Or.inl ⟨?hw_11, ?hy_11⟩) ?hs_11 ?rest_11; (case h2_11 => kernel_rfl); (case h3_11 => kernel_rfl); (case ho_11 => (simp only [List.getElem?_toArray, List.getElem?_cons_zero, List.getElem?_cons_succ]; rfl)); (case h1_11 => kernel_rfl); (case hq_11 => exact fun _ _ _ h => h); (case hw_11 => rfl); (case hy_11 => (intro w' hSw; refine exec_built (t := 35) (cs := #[.slice A2 (m0 + 1) c2, .int .i64 TT, .int .i64 0]) (parts := #[(0, .tmp 95), (1, .tmp 103)]) ?_ ?_ w'; exact rfl; simp only [List.map_toArray, List.map_cons, List.map_nil]; exact built_wy _ _ _ _)); (case hs_11 => assumption); (try simp only [Act.put, List.setIfInBounds_toArray, List.set_cons_zero, List.set_cons_succ])

                              refine wpAnyH_ready (rs := [21]) (by kernel_rfl) (by simp) (AllReadyH.cons (o := ?oo21_48) ?hoo21_48 (fun K hK => ?steponly48) AllReadyH.nil); (case hoo21_48 => (simp only [List.getElem?_toArray, List.getElem?_cons_zero, List.getElem?_cons_succ]; rfl))
                              refine step_new rfl hwz rfl ?_
                              refine Ap.goP hA ?_
                              intro V5 gs hA2
                              refine hK.out _ _ hA2.below (fun _ => ?_)
                              clear hK K hA
                              (try simp only [Act.put, List.setIfInBounds_toArray, List.set_cons_zero, List.set_cons_succ])
                              have hA := hA2
                              clear hA2
                              refine wpAnyH_ready (rs := [22]) (by kernel_rfl) (by simp) (AllReadyH.cons (o := ?oo22_49) ?hoo22_49 (fun K hK => ?steponly49) AllReadyH.nil); (case hoo22_49 => (simp only [List.getElem?_toArray, List.getElem?_cons_zero, List.getElem?_cons_succ]; rfl))
                              refine step_row rfl 35 (.tmp 13) (.tmp 104) rfl gs #[.slice A2 (m0 + 1) c2, .int .i64 TT, .int .i64 0] rfl rfl _ zw (hA.blk gs _ (List.Mem.head _)).1 (wy_inf _ _ _ _) (wy_zs hz3 _ _ _ _) (wy_on _ _ _ _) ?_
                              obtain ⟨hb1, hown1, hblk1, hne1, hge1⟩ := hA.row (List.Mem.head _) #[.slice A2 (m0 + 1) c2, .int .i64 TT, .int .i64 0]
                              refine hK.out _ _ hb1 (fun _ => ?_)
                              clear hK K hA
                              (try simp only [Act.put, List.setIfInBounds_toArray, List.set_cons_zero, List.set_cons_succ])
                              refine wpAnyH_done (by kernel_rfl) ?_ _
                              have HE := Lib.hid (And.intro hb1 (And.intro hown1 (And.intro hblk1 (And.intro hne1 hge1))))
                              clear hb1 hown1 hblk1 hne1 hge1 hsrc r1 r2 r3 hS0
                              go_wp2_with fail
                              go_meet
                              obtain ⟨hb1, hown1, hblk1, hne1, hge1⟩ := HE.out
                              exact ap_out rfl hb1 hown1 hblk1 hne1 hge1 HEN.out.1 HEN.out.2
                            case stepQJ21 =>
                              refine step_new rfl hwz rfl ?_
                              refine Ap.goP hA ?_
                              intro V4 gs hA2
                              refine hK.out _ _ hA2.below (fun _ => ?_)
                              clear hK K hA
                              (try simp only [Act.put, List.setIfInBounds_toArray, List.set_cons_zero, List.set_cons_succ])
                              have hA := hA2
                              clear hA2
                              refine wpAnyH_ready (rs := [11]) (by kernel_rfl) (by simp) (AllReadyH.cons (o := ?oo11_50) ?hoo11_50 (fun K hK => ?steponly50) AllReadyH.nil); (case hoo11_50 => (simp only [List.getElem?_toArray, List.getElem?_cons_zero, List.getElem?_cons_succ]; rfl))
                              refine step_app _ rfl (.tmp 90) (.tmp 94) 33 rfl (base := Z.heap.size) Try.underlying33 elemI rfl hA.own rfl (Sl.new (sz := 1) (n := 1) (hA.blk gb _ (List.Mem.tail _ (List.Mem.head _))).1 rfl) (one_ivs [(ak : Int)]) (by simp only [maxLen]; omega) (by omega) hA.ge ?_
                              intro A2 c2 w5 hown1 hg1 hb1 hat1
                              have hA2 := hA.app hown1 hg1 hb1 hat1
                              refine hK.out _ _ hA2.below (fun _ => ?_)
                              clear hK K hown1 hg1 hb1 hat1 hA
                              (try simp only [Act.put, List.setIfInBounds_toArray, List.set_cons_zero, List.set_cons_succ])
                              have hA := hA2
                              clear hA2
                              refine wpAnyH_take (i := 20) (oi := ?oi_12) (v := ?v_12) ?ho_12 ?h1_12 ?h2_12 ?h3_12 ?hq_12 (Or.inl ⟨?hw_12, ?hy_12⟩) ?hs_12 ?rest_12; (case h2_12 => kernel_rfl); (case h3_12 => kernel_rfl); (case ho_12 => (simp only [List.getElem?_toArray, List.getElem?_cons_zero, List.getElem?_cons_succ]; rfl)); (case h1_12 => kernel_rfl); (case hq_12 => exact fun _ _ _ h => h); (case hw_12 => rfl); (case hy_12 => (intro w' hSw; refine exec_built (t := 35) (cs := #[.slice A2 (m0 + 1) c2, .int .i64 TT, .int .i64 0]) (parts := #[(0, .tmp 95), (1, .tmp 103)]) ?_ ?_ w'; exact rfl; simp only [List.map_toArray, List.map_cons, List.map_nil]; exact built_wy _ _ _ _)); (case hs_12 => assumption); (try simp only [Act.put, List.setIfInBounds_toArray, List.set_cons_zero, List.set_cons_succ])

                              refine wpAnyH_ready (rs := [22]) (by kernel_rfl) (by simp) (AllReadyH.cons (o := ?oo22_51) ?hoo22_51 (fun K hK => ?steponly51) AllReadyH.nil); (case hoo22_51 => (simp only [List.getElem?_toArray, List.getElem?_cons_zero, List.getElem?_cons_succ]; rfl))
                              refine step_row rfl 35 (.tmp 13) (.tmp 104) rfl gs #[.slice A2 (m0 + 1) c2, .int .i64 TT, .int .i64 0] rfl rfl _ zw (hA.blk gs _ (List.Mem.head _)).1 (wy_inf _ _ _ _) (wy_zs hz3 _ _ _ _) (wy_on _ _ _ _) ?_
                              obtain ⟨hb1, hown1, hblk1, hne1, hge1⟩ := hA.row (List.Mem.head _) #[.slice A2 (m0 + 1) c2, .int .i64 TT, .int .i64 0]
                              refine hK.out _ _ hb1 (fun _ => ?_)
                              clear hK K hA
                              (try simp only [Act.put, List.setIfInBounds_toArray, List.set_cons_zero, List.set_cons_succ])
                              refine wpAnyH_done (by kernel_rfl) ?_ _
                              have HE := Lib.hid (And.intro hb1 (And.intro hown1 (And.intro hblk1 (And.intro hne1 hge1))))
                              clear hb1 hown1 hblk1 hne1 hge1 hsrc r1 r2 r3 hS0
                              go_wp2_with fail
                              go_meet
                              obtain ⟨hb1, hown1, hblk1, hne1, hge1⟩ := HE.out
                              exact ap_out rfl hb1 hown1 hblk1 hne1 hge1 HEN.out.1 HEN.out.2
                          case stepQI21 =>
                            refine step_new rfl hwz rfl ?_
                            refine Ap.goP hA ?_
                            intro V3 gs hA2
                            refine hK.out _ _ hA2.below (fun _ => ?_)
                            clear hK K hA
                            (try simp only [Act.put, List.setIfInBounds_toArray, List.set_cons_zero, List.set_cons_succ])
                            have hA := hA2
                            clear hA2
                            refine wpAnyH_ready (rs := [6]) (by kernel_rfl) (by simp) (AllReadyH.cons (o := ?oo6_52) ?hoo6_52 (fun K hK => ?steponly52) AllReadyH.nil); (case hoo6_52 => (simp only [List.getElem?_toArray, List.getElem?_cons_zero, List.getElem?_cons_succ]; rfl))
                            refine step_app _ rfl (.tmp 84) (.tmp 89) 33 rfl (base := Z.heap.size) Try.underlying33 elemI rfl hA.own rfl (hsrc.below hA.below) (one_ivs _) (by simp only [maxLen]; omega) (by omega) hA.ge ?_
                            intro A1 c1 w4 hown1 hg1 hb1 hat1
                            simp only [Nat.zero_add, List.nil_append] at hown1 hat1 ⊢
                            have hA2 := hA.app hown1 hg1 hb1 hat1
                            refine hK.out _ _ hA2.below (fun _ => ?_)
                            clear hK K hown1 hg1 hb1 hat1 hA
                            (try simp only [Act.put, List.setIfInBounds_toArray, List.set_cons_zero, List.set_cons_succ])
                            have hA := hA2
                            clear hA2
                            refine wpAnyH_ready (rs := [11]) (by kernel_rfl) (by simp) (AllReadyH.cons (o := ?oo11_53) ?hoo11_53 (fun K hK => ?steponly53) AllReadyH.nil); (case hoo11_53 => (simp only [List.getElem?_toArray, List.getElem?_cons_zero, List.getElem?_cons_succ]; rfl))
                            refine step_app _ rfl (.tmp 90) (.tmp 94) 33 rfl (base := Z.heap.size) Try.underlying33 elemI rfl hA.own rfl (Sl.new (sz := 1) (n := 1) (hA.blk gb _ (List.Mem.tail _ (List.Mem.head _))).1 rfl) (one_ivs [(ak : Int)]) (by simp only [maxLen]; omega) (by omega) hA.ge ?_
                            intro A2 c2 w5 hown1 hg1 hb1 hat1
                            have hA2 := hA.app hown1 hg1 hb1 hat1
                            refine hK.out _ _ hA2.below (fun _ => ?_)
                            clear hK K hown1 hg1 hb1 hat1 hA
                            (try simp only [Act.put, List.setIfInBounds_toArray, List.set_cons_zero, List.set_cons_succ])
                            have hA := hA2
                            clear hA2
                            refine wpAnyH_take (i := 20) (oi := ?oi_13) (v := ?v_13) ?ho_13 ?h1_13 ?h2_13 ?h3_13 ?hq_13 (Or.inl ⟨?hw_13, ?hy_13⟩) ?hs_13 ?rest_13; (case h2_13 => kernel_rfl); (case h3_13 => kernel_rfl); (case ho_13 => (simp only [List.getElem?_toArray, List.getElem?_cons_zero, List.getElem?_cons_succ]; rfl)); (case h1_13 => kernel_rfl); (case hq_13 => exact fun _ _ _ h => h); (case hw_13 => rfl); (case hy_13 => (intro w' hSw; refine exec_built (t := 35) (cs := #[.slice A2 (m0 + 1) c2, .int .i64 TT, .int .i64 0]) (parts := #[(0, .tmp 95), (1, .tmp 103)]) ?_ ?_ w'; exact rfl; simp only [List.map_toArray, List.map_cons, List.map_nil]; exact built_wy _ _ _ _)); (case hs_13 => assumption); (try simp only [Act.put, List.setIfInBounds_toArray, List.set_cons_zero, List.set_cons_succ])

                            refine wpAnyH_ready (rs := [22]) (by kernel_rfl) (by simp) (AllReadyH.cons (o := ?oo22_54) ?hoo22_54 (fun K hK => ?steponly54) AllReadyH.nil); (case hoo22_54 => (simp only [List.getElem?_toArray, List.getElem?_cons_zero, List.getElem?_cons_succ]; rfl))
                            refine step_row rfl 35 (.tmp 13) (.tmp 104) rfl gs #[.slice A2 (m0 + 1) c2, .int .i64 TT, .int .i64 0] rfl rfl _ zw (hA.blk gs _ (List.Mem.head _)).1 (wy_inf _ _ _ _) (wy_zs hz3 _ _ _ _) (wy_on _ _ _ _) ?_
                            obtain ⟨hb1, hown1, hblk1, hne1, hge1⟩ := hA.row (List.Mem.head _) #[.slice A2 (m0 + 1) c2, .int .i64 TT, .int .i64 0]
                            refine hK.out _ _ hb1 (fun _ => ?_)
                            clear hK K hA
                            (try simp only [Act.put, List.setIfInBounds_toArray, List.set_cons_zero, List.set_cons_succ])
                            refine wpAnyH_done (by kernel_rfl) ?_ _
                            have HE := Lib.hid (And.intro hb1 (And.intro hown1 (And.intro hblk1 (And.intro hne1 hge1))))
                            clear hb1 hown1 hblk1 hne1 hge1 hsrc r1 r2 r3 hS0
                            go_wp2_with fail
                            go_meet
                            obtain ⟨hb1, hown1, hblk1, hne1, hge1⟩ := HE.out
                            exact ap_out rfl hb1 hown1 hblk1 hne1 hge1 HEN.out.1 HEN.out.2
                        case stepQH21 =>
                          refine step_new rfl hwz rfl ?_
                          refine Ap.goP hA ?_
                          intro V2 gs hA2
                          refine hK.out _ _ hA2.below (fun _ => ?_)
                          clear hK K hA
                          (try simp only [Act.put, List.setIfInBounds_toArray, List.set_cons_zero, List.set_cons_succ])
                          have hA := hA2
                          clear hA2
                          refine wpAnyH_ready (rs := [0]) (by kernel_rfl) (by simp) (AllReadyH.cons (o := ?oo0_55) ?hoo0_55 (fun K hK => ?steponly55) AllReadyH.nil); (case hoo0_55 => (simp only [List.getElem?_toArray, List.getElem?_cons_zero, List.getElem?_cons_succ]; rfl))
                          refine step_slice rfl 33 0 #[] rfl (by simp only [List.map_toArray, List.map_nil]; exact ints0 V2) ?_
                          refine Ap.go0 hA ?_
                          intro V3 ga hA2
                          refine hK.out _ _ hA2.below (fun _ => ?_)
                          clear hK K hA
                          (try simp only [Act.put, List.setIfInBounds_toArray, List.set_cons_zero, List.set_cons_succ])
                          have hA := hA2
                          clear hA2
                          refine wpAnyH_ready (rs := [6]) (by kernel_rfl) (by simp) (AllReadyH.cons (o := ?oo6_56) ?hoo6_56 (fun K hK => ?steponly56) AllReadyH.nil); (case hoo6_56 => (simp only [List.getElem?_toArray, List.getElem?_cons_zero, List.getElem?_cons_succ]; rfl))
                          refine step_app _ rfl (.tmp 84) (.tmp 89) 33 rfl (base := Z.heap.size) Try.underlying33 elemI rfl hA.own rfl (hsrc.below hA.below) (one_ivs _) (by simp only [maxLen]; omega) (by omega) hA.ge ?_
                          intro A1 c1 w4 hown1 hg1 hb1 hat1
                          simp only [Nat.zero_add, List.nil_append] at hown1 hat1 ⊢
                          have hA2 := hA.app hown1 hg1 hb1 hat1
                          refine hK.out _ _ hA2.below (fun _ => ?_)
                          clear hK K hown1 hg1 hb1 hat1 hA
                          (try simp only [Act.put, List.setIfInBounds_toArray, List.set_cons_zero, List.set_cons_succ])
                          have hA := hA2
                          clear hA2
                          refine wpAnyH_ready (rs := [11]) (by kernel_rfl) (by simp) (AllReadyH.cons (o := ?oo11_57) ?hoo11_57 (fun K hK => ?steponly57) AllReadyH.nil); (case hoo11_57 => (simp only [List.getElem?_toArray, List.getElem?_cons_zero, List.getElem?_cons_succ]; rfl))
                          refine step_app _ rfl (.tmp 90) (.tmp 94) 33 rfl (base := Z.heap.size) Try.underlying33 elemI rfl hA.own rfl (Sl.new (sz := 1) (n := 1) (hA.blk gb _ (List.Mem.tail _ (List.Mem.head _))).1 rfl) (one_ivs [(ak : Int)]) (by simp only [maxLen]; omega) (by omega) hA.ge ?_
                          intro A2 c2 w5 hown1 hg1 hb1 hat1
                          have hA2 := hA.app hown1 hg1 hb1 hat1
                          refine hK.out _ _ hA2.below (fun _ => ?_)
                          clear hK K hown1 hg1 hb1 hat1 hA
                          (try simp only [Act.put, List.setIfInBounds_toArray, List.set_cons_zero, List.set_cons_succ])
                          have hA := hA2
                          clear hA2
                          refine wpAnyH_take (i := 20) (oi := ?oi_14) (v := ?v_14) ?ho_14 ?h1_14 ?h2_14 ?h3_14 ?hq_14 (Or.inl ⟨?hw_14, ?hy_14⟩) ?hs_14 ?rest_14; (case h2_14 => kernel_rfl); (case h3_14 => kernel_rfl); (case ho_14 => (simp only [List.getElem?_toArray, List.getElem?_cons_zero, List.getElem?_cons_succ]; rfl)); (case h1_14 => kernel_rfl); (case hq_14 => exact fun _ _ _ h => h); (case hw_14 => rfl); (case hy_14 => (intro w' hSw; refine exec_built (t := 35) (cs := #[.slice A2 (m0 + 1) c2, .int .i64 TT, .int .i64 0]) (parts := #[(0, .tmp 95), (1, .tmp 103)]) ?_ ?_ w'; exact rfl; simp only [List.map_toArray, List.map_cons, List.map_nil]; exact built_wy _ _ _ _)); (case hs_14 => assumption); (try simp only [Act.put, List.setIfInBounds_toArray, List.set_cons_zero, List.set_cons_succ])

                          refine wpAnyH_ready (rs := [22]) (by kernel_rfl) (by simp) (AllReadyH.cons (o := ?oo22_58) ?hoo22_58 (fun K hK => ?steponly58) AllReadyH.nil); (case hoo22_58 => (simp only [List.getElem?_toArray, List.getElem?_cons_zero, List.getElem?_cons_succ]; rfl))
                          refine step_row rfl 35 (.tmp 13) (.tmp 104) rfl gs #[.slice A2 (m0 + 1) c2, .int .i64 TT, .int .i64 0] rfl rfl _ zw (hA.blk gs _ (List.Mem.head _)).1 (wy_inf _ _ _ _) (wy_zs hz3 _ _ _ _) (wy_on _ _ _ _) ?_
                          obtain ⟨hb1, hown1, hblk1, hne1, hge1⟩ := hA.row (List.Mem.head _) #[.slice A2 (m0 + 1) c2, .int .i64 TT, .int .i64 0]
                          refine hK.out _ _ hb1 (fun _ => ?_)
                          clear hK K hA
                          (try simp only [Act.put, List.setIfInBounds_toArray, List.set_cons_zero, List.set_cons_succ])
                          refine wpAnyH_done (by kernel_rfl) ?_ _
                          have HE := Lib.hid (And.intro hb1 (And.intro hown1 (And.intro hblk1 (And.intro hne1 hge1))))
                          clear hb1 hown1 hblk1 hne1 hge1 hsrc r1 r2 r3 hS0
                          go_wp2_with fail
                          go_meet
                          obtain ⟨hb1, hown1, hblk1, hne1, hge1⟩ := HE.out
                          exact ap_out rfl hb1 hown1 hblk1 hne1 hge1 HEN.out.1 HEN.out.2
                      case stepQA21 =>
                        refine step_new rfl hwz rfl ?_
                        refine Ap.goP hA ?_
                        intro V1 gs hA2
                        refine hK.out _ _ hA2.below (fun _ => ?_)
                        clear hK K hA
                        (try simp only [Act.put, List.setIfInBounds_toArray, List.set_cons_zero, List.set_cons_succ])
                        have hA := hA2
                        clear hA2
                        refine wpAnyH_ready (rs := [0, 10]) (by kernel_rfl) (by simp) (AllReadyH.cons (o := ?oo0_59) ?hoo0_59 (fun K hK => ?stepQK0) (AllReadyH.cons (o := ?oo10_59) ?hoo10_59 (fun K hK => ?stepQK10) AllReadyH.nil)); (case hoo0_59 => (simp only [List.getElem?_toArray, List.getElem?_cons_zero, List.getElem?_cons_succ]; rfl)); (case hoo10_59 => (simp only [List.getElem?_toArray, List.getElem?_cons_zero, List.getElem?_cons_succ]; rfl))
                        case stepQK0 =>
                          refine step_slice rfl 33 0 #[] rfl (by simp only [List.map_toArray, List.map_nil]; exact ints0 V1) ?_
                          refine Ap.go0 hA ?_
                          intro V2 ga hA2
                          refine hK.out _ _ hA2.below (fun _ => ?_)
                          clear hK K hA
                          (try simp only [Act.put, List.setIfInBounds_toArray, List.set_cons_zero, List.set_cons_succ])
                          have hA := hA2
                          clear hA2
                          refine wpAnyH_ready (rs := [6, 10]) (by kernel_rfl) (by simp) (AllReadyH.cons (o := ?oo6_60) ?hoo6_60 (fun K hK => ?stepQL6) (AllReadyH.cons (o := ?oo10_60) ?hoo10_60 (fun K hK => ?stepQL10) AllReadyH.nil)); (case hoo6_60 => (simp only [List.getElem?_toArray, List.getElem?_cons_zero, List.getElem?_cons_succ]; rfl)); (case hoo10_60 => (simp only [List.getElem?_toArray, List.getElem?_cons_zero, List.getElem?_cons_succ]; rfl))
                          case stepQL6 =>
                            refine step_app _ rfl (.tmp 84) (.tmp 89) 33 rfl (base := Z.heap.size) Try.underlying33 elemI rfl hA.own rfl (hsrc.below hA.below) (one_ivs _) (by simp only [maxLen]; omega) (by omega) hA.ge ?_
                            intro A1 c1 w3 hown1 hg1 hb1 hat1
                            simp only [Nat.zero_add, List.nil_append] at hown1 hat1 ⊢
                            have hA2 := hA.app hown1 hg1 hb1 hat1
                            refine hK.out _ _ hA2.below (fun _ => ?_)
                            clear hK K hown1 hg1 hb1 hat1 hA
                            (try simp only [Act.put, List.setIfInBounds_toArray, List.set_cons_zero, List.set_cons_succ])
                            have hA := hA2
                            clear hA2
                            refine wpAnyH_ready (rs := [10]) (by kernel_rfl) (by simp) (AllReadyH.cons (o := ?oo10_61) ?hoo10_61 (fun K hK => ?steponly61) AllReadyH.nil); (case hoo10_61 => (simp only [List.getElem?_toArray, List.getElem?_cons_zero, List.getElem?_cons_succ]; rfl))
                            refine step_slice rfl 33 1 #[(0, .tmp 93)] rfl (by simp only [List.map_toArray, List.map_cons, List.map_nil]; exact ints1 (ak : Int) w3) ?_
                            refine Ap.go1 hA ?_
                            intro V4 gb hA2
                            refine hK.out _ _ hA2.below (fun _ => ?_)
                            clear hK K hA
                            (try simp only [Act.put, List.setIfInBounds_toArray, List.set_cons_zero, List.set_cons_succ])
                            have hA := hA2
                            clear hA2
                            refine wpAnyH_ready (rs := [11]) (by kernel_rfl) (by simp) (AllReadyH.cons (o := ?oo11_62) ?hoo11_62 (fun K hK => ?steponly62) AllReadyH.nil); (case hoo11_62 => (simp only [List.getElem?_toArray, List.getElem?_cons_zero, List.getElem?_cons_succ]; rfl))
                            refine step_app _ rfl (.tmp 90) (.tmp 94) 33 rfl (base := Z.heap.size) Try.underlying33 elemI rfl hA.own rfl (Sl.new (sz := 1) (n := 1) (hA.blk gb _ (List.Mem.head _)).1 rfl) (one_ivs [(ak : Int)]) (by simp only [maxLen]; omega) (by omega) hA.ge ?_
                            intro A2 c2 w5 hown1 hg1 hb1 hat1
                            have hA2 := hA.app hown1 hg1 hb1 hat1
                            refine hK.out _ _ hA2.below (fun _ => ?_)
                            clear hK K hown1 hg1 hb1 hat1 hA
                            (try simp only [Act.put, List.setIfInBounds_toArray, List.set_cons_zero, List.set_cons_succ])
                            have hA := hA2
                            clear hA2
                            refine wpAnyH_take (i := 20) (oi := ?oi_15) (v := ?v_15) ?ho_15 ?h1_15 ?h2_15 ?h3_15 ?hq_15 (Or.inl ⟨?hw_15, ?hy_15⟩) ?hs_15 ?rest_15; (case h2_15 => kernel_rfl); (case h3_15 => kernel_rfl); (case ho_15 => (simp only [List.getElem?_toArray, List.getElem?_cons_zero, List.getElem?_cons_succ]; rfl)); (case h1_15 => kernel_rfl); (case hq_15 => exact fun _ _ _ h => h); (case hw_15 => rfl); (case hy_15 => (intro w' hSw; refine exec_built (t := 35) (cs := #[.slice A2 (m0 + 1) c2, .int .i64 TT, .int .i64 0]) (parts := #[(0, .tmp 95), (1, .tmp 103)]) ?_ ?_ w'; exact rfl; simp only [List.map_toArray, List.map_cons, List.map_nil]; exact built_wy _ _ _ _)); (case hs_15 => assumption); (try simp only [Act.put, List.setIfInBounds_toArray, List.set_cons_zero, List.set_cons_succ])

                            refine wpAnyH_ready (rs := [22]) (by kernel_rfl) (by simp) (AllReadyH.cons (o := ?oo22_63) ?hoo22_63 (fun K hK => ?steponly63) AllReadyH.nil); (case hoo22_63 => (simp only [List.getElem?_toArray, List.getElem?_cons_zero, List.getElem?_cons_succ]; rfl))
                            refine step_row rfl 35 (.tmp 13) (.tmp 104) rfl gs #[.slice A2 (m0 + 1) c2, .int .i64 TT, .int .i64 0] rfl rfl _ zw (hA.blk gs _ (List.Mem.tail _ (List.Mem.head _))).1 (wy_inf _ _ _ _) (wy_zs hz3 _ _ _ _) (wy_on _ _ _ _) ?_
                            obtain ⟨hb1, hown1, hblk1, hne1, hge1⟩ := hA.row (List.Mem.tail _ (List.Mem.head _)) #[.slice A2 (m0 + 1) c2, .int .i64 TT, .int .i64 0]
                            refine hK.out _ _ hb1 (fun _ => ?_)
                            clear hK K hA
                            (try simp only [Act.put, List.setIfInBounds_toArray, List.set_cons_zero, List.set_cons_succ])
                            refine wpAnyH_done (by kernel_rfl) ?_ _
                            have HE := Lib.hid (And.intro hb1 (And.intro hown1 (And.intro hblk1 (And.intro hne1 hge1))))
                            clear hb1 hown1 hblk1 hne1 hge1 hsrc r1 r2 r3 hS0
                            go_wp2_with fail
                            go_meet
                            obtain ⟨hb1, hown1, hblk1, hne1, hge1⟩ := HE.out
                            exact ap_out rfl hb1 hown1 hblk1 hne1 hge1 HEN.out.1 HEN.out.2
                          case stepQL10 =>
                            refine step_slice rfl 33 1 #[(0, .tmp 93)] rfl (by simp only [List.map_toArray, List.map_cons, List.map_nil]; exact ints1 (ak : Int) V2) ?_
                            refine Ap.go1 hA ?_
                            intro V3 gb hA2
                            refine hK.out _ _ hA2.below (fun _ => ?_)
                            clear hK K hA
                            (try simp only [Act.put, List.setIfInBounds_toArray, List.set_cons_zero, List.set_cons_succ])
                            have hA := hA2
                            clear hA2
                            refine wpAnyH_ready (rs := [6]) (by kernel_rfl) (by simp) (AllReadyH.cons (o := ?oo6_64) ?hoo6_64 (fun K hK => ?steponly64) AllReadyH.nil); (case hoo6_64 => (simp only [List.getElem?_toArray, List.getElem?_cons_zero, List.getElem?_cons_succ]; rfl))
                            refine step_app _ rfl (.tmp 84) (.tmp 89) 33 rfl (base := Z.heap.size) Try.underlying33 elemI rfl hA.own rfl (hsrc.below hA.below) (one_ivs _) (by simp only [maxLen]; omega) (by omega) hA.ge ?_
                            intro A1 c1 w4 hown1 hg1 hb1 hat1
                            simp only [Nat.zero_add, List.nil_append] at hown1 hat1 ⊢
                            have hA2 := hA.app hown1 hg1 hb1 hat1
                            refine hK.out _ _ hA2.below (fun _ => ?_)
                            clear hK K hown1 hg1 hb1 hat1 hA
                            (try simp only [Act.put, List.setIfInBounds_toArray, List.set_cons_zero, List.set_cons_succ])
                            have hA := hA2
                            clear hA2
                            refine wpAnyH_ready (rs := [11]) (by kernel_rfl) (by simp) (AllReadyH.cons (o := ?oo11_65) ?hoo11_65 (fun K hK => ?steponly65) AllReadyH.nil); (case hoo11_65 => (simp only [List.getElem?_toArray, List.getElem?_cons_zero, List.getElem?_cons_succ]; rfl))
                            refine step_app _ rfl (.tmp 90) (.tmp 94) 33 rfl (base := Z.heap.size) Try.underlying33 elemI rfl hA.own rfl (Sl.new (sz := 1) (n := 1) (hA.blk gb _ (List.Mem.head _)).1 rfl) (one_ivs [(ak : Int)]) (by simp only [maxLen]; omega) (by omega) hA.ge ?_
                            intro A2 c2 w5 hown1 hg1 hb1 hat1
                            have hA2 := hA.app hown1 hg1 hb1 hat1
                            refine hK.out _ _ hA2.below (fun _ => ?_)
                            clear hK K hown1 hg1 hb1 hat1 hA
                            (try simp only [Act.put, List.setIfInBounds_toArray, List.set_cons_zero, List.set_cons_succ])
                            have hA := hA2
                            clear hA2
                            refine wpAnyH_take (i := 20) (oi := ?oi_16) (v := ?v_16) ?ho_16 ?h1_16 ?h2_16 ?h3_16 ?hq_16 (Or.inl ⟨?hw_16, ?hy_16⟩) ?hs_16 ?rest_16; (case h2_16 => kernel_rfl); (case h3_16 => kernel_rfl); (case ho_16 => (simp only [List.getElem?_toArray, List.getElem?_cons_zero, List.getElem?_cons_succ]; rfl)); (case h1_16 => kernel_rfl); (case hq_16 => exact fun _ _ _ h => h); (case hw_16 => rfl); (case hy_16 => (intro w' hSw; refine exec_built (t := 35) (cs := #[.slice A2 (m0 + 1) c2, .int .i64 TT, .int .i64 0]) (parts := #[(0, .tmp 95), (1, .tmp 103)]) ?_ ?_ w'; exact rfl; simp only [List.map_toArray, List.map_cons, List.map_nil]; exact built_wy _ _ _ _)); (case hs_16 => assumption); (try simp only [Act.put, List.setIfInBounds_toArray, List.set_cons_zero, List.set_cons_succ])

                            refine wpAnyH_ready (rs := [22]) (by kernel_rfl) (by simp) (AllReadyH.cons (o := ?oo22_66) ?hoo22_66 (fun K hK => ?steponly66) AllReadyH.nil); (case hoo22_66 => (simp only [List.getElem?_toArray, List.getElem?_cons_zero, List.getElem?_cons_succ]; rfl))
                            refine step_row rfl 35 (.tmp 13) (.tmp 104) rfl gs #[.slice A2 (m0 + 1) c2, .int .i64 TT, .int .i64 0] rfl rfl _ zw (hA.blk gs _ (List.Mem.tail _ (List.Mem.head _))).1 (wy_inf _ _ _ _) (wy_zs hz3 _ _ _ _) (wy_on _ _ _ _) ?_
                            obtain ⟨hb1, hown1, hblk1, hne1, hge1⟩ := hA.row (List.Mem.tail _ (List.Mem.head _)) #[.slice A2 (m0 + 1) c2, .int .i64 TT, .int .i64 0]
                            refine hK.out _ _ hb1 (fun _ => ?_)
                            clear hK K hA
                            (try simp only [Act.put, List.setIfInBounds_toArray, List.set_cons_zero, List.set_cons_succ])
                            refine wpAnyH_done (by kernel_rfl) ?_ _
                            have HE := Lib.hid (And.intro hb1 (And.intro hown1 (And.intro hblk1 (And.intro hne1 hge1))))
                            clear hb1 hown1 hblk1 hne1 hge1 hsrc r1 r2 r3 hS0
                            go_wp2_with fail
                            go_meet
                            obtain ⟨hb1, hown1, hblk1, hne1, hge1⟩ := HE.out
                            exact ap_out rfl hb1 hown1 hblk1 hne1 hge1 HEN.out.1 HEN.out.2
                        case stepQK10 =>
                          refine step_slice rfl 33 1 #[(0, .tmp 93)] rfl (by simp only [List.map_toArray, List.map_cons, List.map_nil]; exact ints1 (ak : Int) V1) ?_
                          refine Ap.go1 hA ?_
                          intro V2 gb hA2
                          refine hK.out _ _ hA2.below (fun _ => ?_)
                          clear hK K hA
                          (try simp only [Act.put, List.setIfInBounds_toArray, List.set_cons_zero, List.set_cons_succ])
                          have hA := hA2
                          clear hA2
                          refine wpAnyH_ready (rs := [0]) (by kernel_rfl) (by simp) (AllReadyH.cons (o := ?oo0_67) ?hoo0_67 (fun K hK => ?steponly67) AllReadyH.nil); (case hoo0_67 => (simp only [List.getElem?_toArray, List.getElem?_cons_zero, List.getElem?_cons_succ]; rfl))
                          refine step_slice rfl 33 0 #[] rfl (by simp only [List.map_toArray, List.map_nil]; exact ints0 V2) ?_
                          refine Ap.go0 hA ?_
                          intro V3 ga hA2
                          refine hK.out _ _ hA2.below (fun _ => ?_)
                          clear hK K hA
                          (try simp only [Act.put, List.setIfInBounds_toArray, List.set_cons_zero, List.set_cons_succ])
                          have hA := hA2
                          clear hA2
                          refine wpAnyH_ready (rs := [6]) (by kernel_rfl) (by simp) (AllReadyH.cons (o := ?oo6_68) ?hoo6_68 (fun K hK => ?steponly68) AllReadyH.nil); (case hoo6_68 => (simp only [List.getElem?_toArray, List.getElem?_cons_zero, List.getElem?_cons_succ]; rfl))
                          refine step_app _ rfl (.tmp 84) (.tmp 89) 33 rfl (base := Z.heap.size) Try.underlying33 elemI rfl hA.own rfl (hsrc.below hA.below) (one_ivs _) (by simp only [maxLen]; omega) (by omega) hA.ge ?_
                          intro A1 c1 w4 hown1 hg1 hb1 hat1
                          simp only [Nat.zero_add, List.nil_append] at hown1 hat1 ⊢
                          have hA2 := hA.app hown1 hg1 hb1 hat1
                          refine hK.out _ _ hA2.below (fun _ => ?_)
                          clear hK K hown1 hg1 hb1 hat1 hA
                          (try simp only [Act.put, List.setIfInBounds_toArray, List.set_cons_zero, List.set_cons_succ])
                          have hA := hA2
                          clear hA2
                          refine wpAnyH_ready (rs := [11]) (by kernel_rfl) (by simp) (AllReadyH.cons (o := ?oo11_69) ?hoo11_69 (fun K hK => ?steponly69) AllReadyH.nil); (case hoo11_69 => (simp only [List.getElem?_toArray, List.getElem?_cons_zero, List.getElem?_cons_succ]; rfl))
                          refine step_app _ rfl (.tmp 90) (.tmp 94) 33 rfl (base := Z.heap.size) Try.underlying33 elemI rfl hA.own rfl (Sl.new (sz := 1) (n := 1) (hA.blk gb _ (List.Mem.head _)).1 rfl) (one_ivs [(ak : Int)]) (by simp only [maxLen]; omega) (by omega) hA.ge ?_
                          intro A2 c2 w5 hown1 hg1 hb1 hat1
                          have hA2 := hA.app hown1 hg1 hb1 hat1
                          refine hK.out _ _ hA2.below (fun _ => ?_)
                          clear hK K hown1 hg1 hb1 hat1 hA
                          (try simp only [Act.put, List.setIfInBounds_toArray, List.set_cons_zero, List.set_cons_succ])
                          have hA := hA2
                          clear hA2
                          refine wpAnyH_take (i := 20) (oi := ?oi_17) (v := ?v_17) ?ho_17 ?h1_17 ?h2_17 ?h3_17 ?hq_17 (Or.inl ⟨?hw_17, ?hy_17⟩) ?hs_17 ?rest_17; (case h2_17 => kernel_rfl); (case h3_17 => kernel_rfl); (case ho_17 => (simp only [List.getElem?_toArray, List.getElem?_cons_zero, List.getElem?_cons_succ]; rfl)); (case h1_17 => kernel_rfl); (case hq_17 => exact fun _ _ _ h => h); (case hw_17 => rfl); (case hy_17 => (intro w' hSw; refine exec_built (t := 35) (cs := #[.slice A2 (m0 + 1) c2, .int .i64 TT, .int .i64 0]) (parts := #[(0, .tmp 95), (1, .tmp 103)]) ?_ ?_ w'; exact rfl; simp only [List.map_toArray, List.map_cons, List.map_nil]; exact built_wy _ _ _ _)); (case hs_17 => assumption); (try simp only [Act.put, List.setIfInBounds_toArray, List.set_cons_zero, List.set_cons_succ])

                          refine wpAnyH_ready (rs := [22]) (by kernel_rfl) (by simp) (AllReadyH.cons (o := ?oo22_70) ?hoo22_70 (fun K hK => ?steponly70) AllReadyH.nil); (case hoo22_70 => (simp only [List.getElem?_toArray, List.getElem?_cons_zero, List.getElem?_cons_succ]; rfl))
                          refine step_row rfl 35 (.tmp 13) (.tmp 104) rfl gs #[.slice A2 (m0 + 1) c2, .int .i64 TT, .int .i64 0] rfl rfl _ zw (hA.blk gs _ (List.Mem.tail _ (List.Mem.head _))).1 (wy_inf _ _ _ _) (wy_zs hz3 _ _ _ _) (wy_on _ _ _ _) ?_
                          obtain ⟨hb1, hown1, hblk1, hne1, hge1⟩ := hA.row (List.Mem.tail _ (List.Mem.head _)) #[.slice A2 (m0 + 1) c2, .int .i64 TT, .int .i64 0]
                          refine hK.out _ _ hb1 (fun _ => ?_)
                          clear hK K hA
                          (try simp only [Act.put, List.setIfInBounds_toArray, List.set_cons_zero, List.set_cons_succ])
                          refine wpAnyH_done (by kernel_rfl) ?_ _
                          have HE := Lib.hid (And.intro hb1 (And.intro hown1 (And.intro hblk1 (And.intro hne1 hge1))))
                          clear hb1 hown1 hblk1 hne1 hge1 hsrc r1 r2 r3 hS0
                          go_wp2_with fail
                          go_meet
                          obtain ⟨hb1, hown1, hblk1, hne1, hge1⟩ := HE.out
                          exact ap_out rfl hb1 hown1 hblk1 hne1 hge1 HEN.out.1 HEN.out.2
                    case rest =>
                    obtain ⟨gw, A13, c13, rfl, y13, hiv13, hfar13, hge13, hbx⟩ := hcut
                    rename World => Wc
                    have hgwC : gw < Wc.heap.size := (Array.getElem?_eq_some_iff.1 y13).1
                    have hFC : F < Wc.heap.size := by have := hbx.size; omega
                    obtain ⟨hrepZ, hbZ0, hivZ⟩ := HZZ.out
                    have hrepC := hrepZ.nxt hbx
                    have hbC := bNext hbZ0 hbx
                    have hiv9C := hivZ.but (but_of hbx)
                    have hgwF : gw ≠ F := by omega
                    have w0 : Wc.cell? ⟨gw, 0, none⟩ = some (.slice A13 (m0 + 1) c13) := blk_cell y13 rfl
                    have w1 : Wc.cell? ⟨gw, 1, none⟩ = some (.int .i64 TT) := blk_cell y13 rfl
                    have f0 : Wc.cell? ⟨F, k * 3, none⟩ = some (.slice A9 m9 c9) := blk_cell hrepC.blk HW.out.2.2.1.2.2.1
                    have f1 : Wc.cell? ⟨F, k * 3 + 1, none⟩ = some (.int .i64 (cur.getD wy0).total) := blk_cell hrepC.blk HW.out.2.2.1.2.2.2
                    have hless := fun W (hb : Below Wc.heap.size Wc W) => rless_any W (hiv13.nxt hb) (hiv9C.iv.nxt hb) (by omega) hm9
                    obtain ⟨E2, hE2⟩ : ∃ q, x.ends ++ [(ak : Int)] = q := ⟨_, rfl⟩
                    have hcs := HM.out.1
                    rw [hE2] at hless hiv13 hcs
                    rw [offr_new] at hcs
                    have HC := Lib.hid (And.intro hrepC (And.intro hbC (And.intro hiv13 (And.intro hfar13 (And.intro hcs (And.intro y13 hge13))))))
                    have HTH := Lib.hid (And.intro HM.out.2.2.1 HM.out.2.2.2.1)
                    clear hrepZ hbZ0 hivZ hrepC hbC hiv9C hiv13 hfar13 hcs y13 hge13 hbx HZZ HW HM HEN hE2 d0 d1 k12 hsrc
                    (try simp only [Act.put, List.setIfInBounds_toArray, List.set_cons_zero, List.set_cons_succ])
                    go_upto_region 21 with (fail)
                    (try simp only [Act.put, List.setIfInBounds_toArray, List.set_cons_zero, List.set_cons_succ])
                    go_cut [136] from 105 to 136 (fun s136 wx => s136 = .bool (newB cur ⟨E2, TT⟩) ∧ Below Wc.heap.size Wc wx)
                    case first =>
                      clear HC
                      let S : World → Prop := fun w' => Below Wc.heap.size Wc w'
                      have hS0 : S Wc.drew := (Below.refl _ _).drew
                      have r1 : ∀ w', S w' → w'.cell? ⟨gw, 1, none⟩ = some (.int .i64 TT) := fun w' h => (Below.cell h (p := ⟨gw, 1, none⟩) hgwC).trans w1
                      have r2 : ∀ w', S w' → w'.cell? ⟨F, k * 3 + 1, none⟩ = some (.int .i64 (cur.getD wy0).total) := fun w' h => (Below.cell h (p := ⟨F, k * 3 + 1, none⟩) hFC).trans f1
                      have r3 : ∀ w', S w' → w'.cell? ⟨gw, 0, none⟩ = some (.slice A13 (m0 + 1) c13) := fun w' h => (Below.cell h (p := ⟨gw, 0, none⟩) hgwC).trans w0
                      have r4 : ∀ w', S w' → w'.cell? ⟨F, k * 3, none⟩ = some (.slice A9 m9 c9) := fun w' h => (Below.cell h (p := ⟨F, k * 3, none⟩) hFC).trans f0
                      clear w0 w1 f0 f1
                      refine wp_region_held (S := S) (by kernel_rfl) ?_
                      change wpAnyH _ _ _ _ S _ _ _ Wc.drew
                      cases hcc : cur with
                      | none =>
                        have hth : th = false := by rw [← HTH.out.1, hcc]; rfl
                        subst hth
                        change At 0 _
                        iterate 32 (first | (apply tkA; (case hi => (simp only [List.getElem?_toArray, List.getElem?_cons_zero, List.getElem?_cons_succ]; rfl)); (case hw => rfl); (case hy => (intro w' hSw; (try simp only [S] at hSw); go_simp; (try with_reducible rfl))); (case hs => kernel_rfl); (case hf => kernel_rfl); (case hr => kernel_rfl); (case hQ => exact fun _ _ _ h => h); (case hS => assumption); (try simp only [Act.put, List.setIfInBounds_toArray, List.set_cons_zero, List.set_cons_succ, Nat.reduceAdd])) | (apply skA; (case hi => (simp only [List.getElem?_toArray, List.getElem?_cons_zero, List.getElem?_cons_succ]; rfl)); (case hw => rfl); (case hs => kernel_rfl); (case hf => kernel_rfl); (case hr => kernel_rfl); (case hQ => exact fun _ _ _ h => h); (case hS => assumption); (try simp only [Act.put, List.setIfInBounds_toArray, List.set_cons_zero, List.set_cons_succ, Nat.reduceAdd])))
                        change wpAnyH _ _ _ _ _ _ _ _ _
                        refine wpAnyH_done (by kernel_rfl) ?_ _
                        have HE := Lib.hid (show Below Wc.heap.size Wc _ from hS0)
                        clear hS0 r1 r2 r3 r4
                        go_wp2_with fail
                        go_meet
                        exact ⟨by rw [hcc]; rfl, HE.out⟩
                      | some y =>
                        have hth : th = true := by rw [← HTH.out.1, hcc]; rfl
                        subst hth
                        rw [hcc] at r2 hless
                        obtain ⟨ye, yt⟩ := y
                        simp only [Option.getD_some] at r2 hless
                        rcases Int.lt_trichotomy TT yt with h1 | h1 | h1
                        · skip
                          change At 0 _
                          iterate 32 (first | (apply tkA; (case hi => (simp only [List.getElem?_toArray, List.getElem?_cons_zero, List.getElem?_cons_succ]; rfl)); (case hw => rfl); (case hy => (intro w' hSw; have q1 := r1 w' hSw; have q2 := r2 w' hSw; (try simp only [S] at hSw); go_simp; (try with_reducible rfl))); (case hs => kernel_rfl); (case hf => kernel_rfl); (case hr => kernel_rfl); (case hQ => exact fun _ _ _ h => h); (case hS => assumption); (try simp only [Act.put, List.setIfInBounds_toArray, List.set_cons_zero, List.set_cons_succ, Nat.reduceAdd])) | (apply skA; (case hi => (simp only [List.getElem?_toArray, List.getElem?_cons_zero, List.getElem?_cons_succ]; rfl)); (case hw => rfl); (case hs => kernel_rfl); (case hf => kernel_rfl); (case hr => kernel_rfl); (case hQ => exact fun _ _ _ h => h); (case hS => assumption); (try simp only [Act.put, List.setIfInBounds_toArray, List.set_cons_zero, List.set_cons_succ, Nat.reduceAdd])))
                          change wpAnyH _ _ _ _ _ _ _ _ _
                          refine wpAnyH_done (by kernel_rfl) ?_ _
                          have HE := Lib.hid (show Below Wc.heap.size Wc _ from hS0)
                          clear hS0 r1 r2 r3 r4
                          go_wp2_with fail
                          go_meet
                          exact ⟨by rw [hcc]; unfold newB bett; simp only; rw [if_neg (by omega), decide_eq_true h1], HE.out⟩
                        · subst h1
                          have h2 : ¬ TT < TT := by omega
                          change At 0 _
                          iterate 29 (first | (apply tkA; (case hi => (simp only [List.getElem?_toArray, List.getElem?_cons_zero, List.getElem?_cons_succ]; rfl)); (case hw => rfl); (case hy => (intro w' hSw; have q1 := r1 w' hSw; have q2 := r2 w' hSw; have q3 := r3 w' hSw; have q4 := r4 w' hSw; (try simp only [S] at hSw); go_simp; (try with_reducible rfl))); (case hs => kernel_rfl); (case hf => kernel_rfl); (case hr => kernel_rfl); (case hQ => exact fun _ _ _ h => h); (case hS => assumption); (try simp only [Act.put, List.setIfInBounds_toArray, List.set_cons_zero, List.set_cons_succ, Nat.reduceAdd])) | (apply skA; (case hi => (simp only [List.getElem?_toArray, List.getElem?_cons_zero, List.getElem?_cons_succ]; rfl)); (case hw => rfl); (case hs => kernel_rfl); (case hf => kernel_rfl); (case hr => kernel_rfl); (case hQ => exact fun _ _ _ h => h); (case hS => assumption); (try simp only [Act.put, List.setIfInBounds_toArray, List.set_cons_zero, List.set_cons_succ, Nat.reduceAdd])))
                          change wpAnyH _ _ _ _ _ _ _ _ _
                          refine wpAnyH_ready (rs := [29]) (by kernel_rfl) (by simp) (AllReadyH.cons (o := ?oo29_71) ?hoo29_71 (fun K hK => ?steponly71) AllReadyH.nil); (case hoo29_71 => (simp only [List.getElem?_toArray, List.getElem?_cons_zero, List.getElem?_cons_succ]; rfl))
                          go_simp
                          refine Calls.mono (hless Wc.drew hS0) ?_
                          rintro e w5 ⟨rfl, hb5⟩
                          have hS1 : S w5 := (show Below Wc.heap.size Wc Wc.drew from hS0).trans hb5
                          refine hK.out _ _ hS1 (fun _ => ?_)
                          clear hK K
                          (try simp only [Act.put, List.setIfInBounds_toArray, List.set_cons_zero, List.set_cons_succ])
                          change At 30 _
                          iterate 2 (first | (apply tkA; (case hi => (simp only [List.getElem?_toArray, List.getElem?_cons_zero, List.getElem?_cons_succ]; rfl)); (case hw => rfl); (case hy => (intro w' hSw; (try simp only [S] at hSw); go_simp; (try with_reducible rfl))); (case hs => kernel_rfl); (case hf => kernel_rfl); (case hr => kernel_rfl); (case hQ => exact fun _ _ _ h => h); (case hS => assumption); (try simp only [Act.put, List.setIfInBounds_toArray, List.set_cons_zero, List.set_cons_succ, Nat.reduceAdd])) | (apply skA; (case hi => (simp only [List.getElem?_toArray, List.getElem?_cons_zero, List.getElem?_cons_succ]; rfl)); (case hw => rfl); (case hs => kernel_rfl); (case hf => kernel_rfl); (case hr => kernel_rfl); (case hQ => exact fun _ _ _ h => h); (case hS => assumption); (try simp only [Act.put, List.setIfInBounds_toArray, List.set_cons_zero, List.set_cons_succ, Nat.reduceAdd])))
                          change wpAnyH _ _ _ _ _ _ _ _ _
                          refine wpAnyH_done (by kernel_rfl) ?_ _
                          have HE := Lib.hid (show Below Wc.heap.size Wc _ from hS1)
                          clear hS0 hS1 r1 r2 r3 r4 hb5
                          go_wp2_with fail
                          go_meet
                          exact ⟨by rw [hcc]; unfold newB bett; simp, HE.out⟩
                        · have h2 : ¬ TT < yt := by omega
                          have h3' : (TT == yt) = false := by simp; omega
                          change At 0 _
                          iterate 32 (first | (apply tkA; (case hi => (simp only [List.getElem?_toArray, List.getElem?_cons_zero, List.getElem?_cons_succ]; rfl)); (case hw => rfl); (case hy => (intro w' hSw; have q1 := r1 w' hSw; have q2 := r2 w' hSw; (try simp only [S] at hSw); go_simp; (try with_reducible rfl))); (case hs => kernel_rfl); (case hf => kernel_rfl); (case hr => kernel_rfl); (case hQ => exact fun _ _ _ h => h); (case hS => assumption); (try simp only [Act.put, List.setIfInBounds_toArray, List.set_cons_zero, List.set_cons_succ, Nat.reduceAdd])) | (apply skA; (case hi => (simp only [List.getElem?_toArray, List.getElem?_cons_zero, List.getElem?_cons_succ]; rfl)); (case hw => rfl); (case hs => kernel_rfl); (case hf => kernel_rfl); (case hr => kernel_rfl); (case hQ => exact fun _ _ _ h => h); (case hS => assumption); (try simp only [Act.put, List.setIfInBounds_toArray, List.set_cons_zero, List.set_cons_succ, Nat.reduceAdd])))
                          change wpAnyH _ _ _ _ _ _ _ _ _
                          refine wpAnyH_done (by kernel_rfl) ?_ _
                          have HE := Lib.hid (show Below Wc.heap.size Wc _ from hS0)
                          clear hS0 r1 r2 r3 r4
                          go_wp2_with fail
                          go_meet
                          exact ⟨by rw [hcc]; unfold newB bett; simp only; rw [if_neg (by omega), decide_eq_false (by omega)], HE.out⟩
                    case rest =>
                    obtain ⟨rfl, hbx2⟩ := hcut
                    rename World => Wd
                    clear w0 w1 f0 f1 hless
                    obtain ⟨hrepC, hbC, hiv13, hfar13, hcs, y13, hge13⟩ := HC.out
                    have hgi : IntKind.i64.wrap ((i : Int) + 1) = ((i + 1 : Nat) : Int) := by rw [wrap_small _ (by omega) (by omega)]; omega
                    have hrepD := hrepC.nxt hbx2
                    have hbD := bNext hbC hbx2
                    cases hD : newB cur ⟨E2, TT⟩ with
                    | false =>
                      rw [hD, if_neg Bool.false_ne_true] at hcs
                      have hth : th = (curW l f h k (i + 1)).isSome := by rw [hcs, ← HTH.out.1]
                      have HZ2 := Lib.hid (And.intro hrepD (And.intro hbD (And.intro hth hcs)))
                      have hFD : F < Wd.heap.size := by have := hbx2.size; omega
                      clear hrepC hbC hiv13 hfar13 hcs y13 hge13 HC hrepD hbD hth hbx2
                      go_wp2_with fail
                      go_roundw
                      case rel => exact ⟨i + 1, by omega, by omega, by rw [← HZ2.out.2.2.1], by go_num, hFD, Lib.hid ⟨by have := HZ2.out.2.1; rw [HFZ.out.1] at this; exact this, cs, by have h1 := HZ2.out.1; rw [HTH.out.2] at h1; rw [HZ2.out.2.2.2]; exact h1⟩⟩
                      case measure => simp [intOf]; omega
                    | true =>
                      rw [hD, if_pos rfl] at hcs
                      have y13D := bBlk hbx2 (Array.getElem?_eq_some_iff.1 y13).1 y13
                      have hivD : IvN Wd F A13 (m0 + 1) c13 E2 := ⟨hiv13.nxt hbx2, fun b o i e => by have := hfar13 b o i e; omega⟩
                      obtain ⟨cw, hcw⟩ : ∃ q : Array Value, #[.slice A13 (m0 + 1) c13, .int .i64 TT, .int .i64 0] = q := ⟨_, rfl⟩
                      rw [hcw] at y13D
                      have hc3 : cw.size = 3 := by rw [← hcw]; rfl
                      have hcl : cw.toList = [.slice A13 (m0 + 1) c13, .int .i64 TT, .int .i64 0] := by rw [← hcw]
                      have hc1' : cw.all (·.oneCell') = true := by rw [← hcw]; exact wy_on _ _ _ _
                      have hw3' : (Try.prog.info? 35).map (·.size) = some cw.size := by rw [hc3]; exact wy_size
                      have hth2 : Wd.there F (k * 3) cw.size := there_blk hrepD.blk (by rw [hc3, hrepD.size]; omega)
                      obtain ⟨XX, hXX⟩ : ∃ q, Wd.setCells F (k * 3) cw.toList = q := ⟨_, rfl⟩
                      have hFX : XX.heap[F]? = some (.cells (setMany cs (k * 3) cw.toList) 35) := by rw [← hXX]; exact blk_sets _ (k * 3) hrepD.blk
                      have hBX : But Wd.heap.size (· = F) Wd XX := by rw [← hXX]; exact but_sets _ F (k * 3) (But.refl _ _ _) rfl
                      rw [hcl] at hFX
                      have hrepX := hrepD.put (y := ⟨E2, TT⟩) (g' := gst (rW l f h) k ⟨E2, TT⟩) hlt hBX hFX (hivD.but hBX) gst_at (fun j hj hne => gst_ne hne)
                      have hbX : Below Z0.heap.size Z0 XX := hbD.trans (hBX.below hbD.size (fun q e => by have := HFZ.out.1; omega))
                      have hFXs : F < XX.heap.size := (Array.getElem?_eq_some_iff.1 hFX).1
                      have HZ2 := Lib.hid (And.intro hrepX (And.intro hbX hcs))
                      clear hrepC hbC hiv13 hfar13 hcs y13 hge13 HC hrepD hbD hbx2 hivD hcw hcl hFX hBX hrepX hbX
                      go_wp2_with (first
                        | (refine wpList_load_row rfl 35 (.tmp 13) rfl _ rfl _ cw (0, 0) _ y13D Try.underlying35 rfl hw3' ?_)
                        | (refine wpList_store_mid rfl 35 (.tmp 140) (.tmp 139) rfl F (k * 3) cw rfl rfl hth2 hw3' hc1' ?_; rw [hXX])
                        | fail)
                      go_roundw
                      case rel => exact ⟨i + 1, by omega, by omega, by rw [HZ2.out.2.2]; rfl, by go_num, hFXs, Lib.hid ⟨by have := HZ2.out.2.1; rw [HFZ.out.1] at this; exact this, _, by rw [HZ2.out.2.2]; exact HZ2.out.1⟩⟩
                      case measure => simp [intOf]; omega
                  · obtain rfl : i = k := by omega
                    have hii : ¬ (i : Int) < (i : Int) := by omega
                    have hgi : IntKind.i64.wrap ((i : Int) + 1) = ((i + 1 : Nat) : Int) := by rw [wrap_small _ (by omega) (by omega)]; omega
                    have hce := cur_end l f h hk1
                    have HZ2 := Lib.hid (show Below F Z0 wr ∧ ∃ cs, RRep wr F N (gst (rW l f h) (i + 1) wy0) cs from ⟨HI.out.1, by
                      obtain ⟨cs, hr⟩ := HI.out.2
                      rw [← hce] at hr
                      exact ⟨cs, hr.list (fun j _ => (gst_up j).symm)⟩⟩)
                    clear HI hce
                    go_wp2_with fail
                    go_roundw
                    case rel => exact ⟨i + 1, by omega, by omega, by go_num, hFr, HZ2⟩
                    case measure => simp [intOf]; omega
              · obtain rfl : k = N := by omega
                have hi1 : ¬ (k : Int) ≤ (K : Int) := by omega
                obtain ⟨cs, hrep⟩ := HK.out.2
                have hbF : Below Z0.heap.size Z0 wr := by rw [HFZ.out.1]; exact HK.out.1
                have hcel := hrep.cel K (by omega)
                rw [gst_lt (by omega), show rW l f h K = secP l f g h by rw [← HFZ.out.2.1]; rfl] at hcel
                have hrs := HT.out.2.1
                have hao := HT.out.2.2
                have hso := sec_ok (l := l) (a := f) (t := g) (h := h) h20
                obtain ⟨SW, hSW⟩ : ∃ q, secP l f g h = q := ⟨_, rfl⟩
                rw [hSW] at hcel hrs hao hso
                obtain ⟨A8, m8, c8, c80, c81, -, hiv8⟩ := hcel
                have hg5i : g5 < Z0.heap.size := by rw [HFZ.out.1]; exact hg5F
                have r5 := bBlk hbF hg5i HO.out.2.2.1
                have r4 := bBlk hbF (by have := HX.out.2.2.2; omega) HO.out.2.1
                have hiv5 := HO.out.2.2.2.1.but (but_of hbF)
                have hB4 : Below g4 w wr := HO.out.1.trans (hbF.mono (by have := HX.out.2.2.2; omega))
                have d80 := blk_cell hrep.blk c80
                have HC81 := Lib.hid c81
                have g7 : IntKind.i64.wrap (acc.total + SW.total) = acc.total + SW.total := wrap_small _ (by have := hso.1; have := HO.out.2.2.2.2.1.1; omega) (by have := hao.2.1; simp only at this; omega)
                have k50 : wr.cell? ⟨g5, 0, none⟩ = some (.slice A5 acc.ends.length c5) := blk_cell r5 rfl
                have hm8 := hiv8.iv.len
                have hal := hao.2.2.1
                have ha1 := HO.out.2.2.2.2.1.1
                have ha2 := hao.1
                have ha3 := hao.2.1
                simp only [List.length_append] at hal
                simp only at ha2 ha3
                obtain ⟨al, hale⟩ : ∃ q, acc.ends.length = q := ⟨_, rfl⟩
                rw [hale] at hal k50 hiv5 r5
                have hs5 := hiv5.iv.sl
                have hs8 := hiv8.iv.sl
                have hKk : (K : Int) < (k : Int) := by omega
                have hK0 : (0 : Int) ≤ (K : Int) := by omega
                have hne5 : F ≠ g5 := by omega
                have HQ := Lib.hid (And.intro r5 (And.intro r4 (And.intro hB4 (And.intro hrs (And.intro hao (And.intro hale (And.intro hm8 hrep.blk)))))))
                have hal3 : al + m8 ≤ 300 := by rw [hm8] at hal; omega
                have hg5w : g5 < wr.heap.size := (Array.getElem?_eq_some_iff.1 r5).1
                clear hrep hbF hrs hao hso hSW c80 c81 hg5i r5 r4 hB4 hale HK hiv5 hiv8 hm8 hal
                go_upto_region 23 with (fail)
                let S : World → Prop := fun w' => But wr.heap.size (· = g5) wr w'
                have hS0 : S wr.drew := (But.refl _ _ _).drew
                have r1 : ∀ w', S w' → w'.cell? ⟨F, K * 3, none⟩ = some (.slice A8 m8 c8) := fun w' h => (World.cell?_of_block (a := ⟨F, K * 3, none⟩) (But.block (show But wr.heap.size (· = g5) wr w' from h) F hFr hne5)).trans d80
                refine wp_region_held (S := S) (by kernel_rfl) ?_
                change wpAnyH _ _ _ _ S _ _ _ wr.drew
                change At 1 _
                iterate 1 (first | (apply tkA; (case hi => (simp only [List.getElem?_toArray, List.getElem?_cons_zero, List.getElem?_cons_succ]; rfl)); (case hw => rfl); (case hy => (intro w' hSw; (try simp only [S] at hSw); go_simp; (try with_reducible rfl))); (case hs => kernel_rfl); (case hf => kernel_rfl); (case hr => kernel_rfl); (case hQ => exact fun _ _ _ h => h); (case hS => assumption); (try simp only [Act.put, List.setIfInBounds_toArray, List.set_cons_zero, List.set_cons_succ, Nat.reduceAdd])) | (apply skA; (case hi => (simp only [List.getElem?_toArray, List.getElem?_cons_zero, List.getElem?_cons_succ]; rfl)); (case hw => rfl); (case hs => kernel_rfl); (case hf => kernel_rfl); (case hr => kernel_rfl); (case hQ => exact fun _ _ _ h => h); (case hS => assumption); (try simp only [Act.put, List.setIfInBounds_toArray, List.set_cons_zero, List.set_cons_succ, Nat.reduceAdd])))
                change wpAnyH _ _ _ _ _ _ _ _ _
                change At 4 _
                iterate 7 (first | (apply tkA; (case hi => (simp only [List.getElem?_toArray, List.getElem?_cons_zero, List.getElem?_cons_succ]; rfl)); (case hw => rfl); (case hy => (intro w' hSw; have q := r1 w' hSw; (try simp only [S] at hSw); go_simp; (try with_reducible rfl))); (case hs => kernel_rfl); (case hf => kernel_rfl); (case hr => kernel_rfl); (case hQ => exact fun _ _ _ h => h); (case hS => assumption); (try simp only [Act.put, List.setIfInBounds_toArray, List.set_cons_zero, List.set_cons_succ, Nat.reduceAdd])) | (apply skA; (case hi => (simp only [List.getElem?_toArray, List.getElem?_cons_zero, List.getElem?_cons_succ]; rfl)); (case hw => rfl); (case hs => kernel_rfl); (case hf => kernel_rfl); (case hr => kernel_rfl); (case hQ => exact fun _ _ _ h => h); (case hS => assumption); (try simp only [Act.put, List.setIfInBounds_toArray, List.set_cons_zero, List.set_cons_succ, Nat.reduceAdd])))
                change wpAnyH _ _ _ _ _ _ _ _ _
                obtain ⟨V0, hV0⟩ : ∃ q, wr.drew = q := ⟨_, rfl⟩
                have hA := Ap.start wr 3 1
                rw [hV0] at hA hS0 ⊢
                have k5V : V0.cell? ⟨g5, 0, none⟩ = some (.slice A5 al c5) := by rw [← hV0]; exact k50
                clear hV0
                refine wpAnyH_ready (rs := [0, 2]) (by kernel_rfl) (by simp) (AllReadyH.cons (o := ?oo0_72) ?hoo0_72 (fun K hK => ?stepRA0) (AllReadyH.cons (o := ?oo2_72) ?hoo2_72 (fun K hK => ?stepRA2) AllReadyH.nil)); (case hoo0_72 => (simp only [List.getElem?_toArray, List.getElem?_cons_zero, List.getElem?_cons_succ]; rfl)); (case hoo2_72 => (simp only [List.getElem?_toArray, List.getElem?_cons_zero, List.getElem?_cons_succ]; rfl))
                case stepRA0 =>
                  refine step_slice rfl 33 0 #[] rfl (by simp only [List.map_toArray, List.map_nil]; exact ints0 V0) ?_
                  refine Ap.go0 hA ?_
                  intro V1 ga hA2
                  refine hK.out _ _ (but_of hA2.below) (fun _ => ?_)
                  clear hK K hA k5V
                  (try simp only [Act.put, List.setIfInBounds_toArray, List.set_cons_zero, List.set_cons_succ])
                  have k5W := (hA2.below.cell (p := ⟨g5, 0, none⟩) hg5w).trans k50
                  refine wpAnyH_ready (rs := [2]) (by kernel_rfl) (by simp) (AllReadyH.cons (o := ?oo2_73) ?hoo2_73 (fun K hK => ?steponly73) AllReadyH.nil); (case hoo2_73 => (simp only [List.getElem?_toArray, List.getElem?_cons_zero, List.getElem?_cons_succ]; rfl))
                  go_simp
                  refine hK.out _ _ (but_of hA2.below) (fun _ => ?_)
                  clear hK K k5W
                  (try simp only [Act.put, List.setIfInBounds_toArray, List.set_cons_zero, List.set_cons_succ])
                  refine wpAnyH_ready (rs := [3]) (by kernel_rfl) (by simp) (AllReadyH.cons (o := ?oo3_74) ?hoo3_74 (fun K hK => ?steponly74) AllReadyH.nil); (case hoo3_74 => (simp only [List.getElem?_toArray, List.getElem?_cons_zero, List.getElem?_cons_succ]; rfl))
                  refine step_app _ rfl (.tmp 141) (.tmp 143) 33 rfl (base := wr.heap.size) Try.underlying33 elemI rfl hA2.own rfl (hs5.below hA2.below) (one_ivs _) (by simp only [maxLen]; omega) (by omega) hA2.ge ?_
                  intro A1 c1 w2 hown1 hg1 hb1 hat1
                  simp only [Nat.zero_add, List.nil_append] at hown1 hat1 ⊢
                  have hA3 := hA2.app hown1 hg1 hb1 hat1
                  refine hK.out _ _ (but_of hA3.below) (fun _ => ?_)
                  clear hK K hown1 hg1 hb1 hat1 hA2
                  (try simp only [Act.put, List.setIfInBounds_toArray, List.set_cons_zero, List.set_cons_succ])
                  refine wpAnyH_ready (rs := [11]) (by kernel_rfl) (by simp) (AllReadyH.cons (o := ?oo11_75) ?hoo11_75 (fun K hK => ?steponly75) AllReadyH.nil); (case hoo11_75 => (simp only [List.getElem?_toArray, List.getElem?_cons_zero, List.getElem?_cons_succ]; rfl))
                  refine step_app _ rfl (.tmp 144) (.tmp 151) 33 rfl (base := wr.heap.size) Try.underlying33 elemI rfl hA3.own rfl (hs8.below hA3.below) (one_ivs _) (by simp only [maxLen]; omega) (by omega) hA3.ge ?_
                  intro A2 c2 w3 hown1 hg1 hb1 hat1
                  have hA4 := hA3.app hown1 hg1 hb1 hat1
                  refine hK.out _ _ (but_of hA4.below) (fun _ => ?_)
                  clear hK K hown1 hg1 hb1 hat1 hA3
                  (try simp only [Act.put, List.setIfInBounds_toArray, List.set_cons_zero, List.set_cons_succ])
                  refine wpAnyH_take (i := 12) (oi := ?oi_1) (v := ?v_1) ?ho_1 ?h1_1 ?h2_1 ?h3_1 ?hq_1 (Or.inl ⟨?hw_1, ?hy_1⟩) ?hs_1 ?rest_1; (case h2_1 => kernel_rfl); (case h3_1 => kernel_rfl); (case ho_1 => (simp only [List.getElem?_toArray, List.getElem?_cons_zero, List.getElem?_cons_succ]; rfl)); (case h1_1 => kernel_rfl); (case hq_1 => exact fun _ _ _ h => h); (case hw_1 => rfl); (case hy_1 => (intro w' hSw; (try simp only [S] at hSw); go_simp; (try with_reducible rfl))); (case hs_1 => assumption); (try simp only [Act.put, List.setIfInBounds_toArray, List.set_cons_zero, List.set_cons_succ])
                  have r5X := bBlk hA4.below hg5w HQ.out.1
                  have k5X : w3.cell? ⟨g5, 0, none⟩ = some (.slice A5 al c5) := blk_cell r5X rfl
                  have f5X := blk_frozen r5X 0
                  have hlt5 := (Array.getElem?_eq_some_iff.1 r5X).1
                  refine wpAnyH_ready (rs := [13]) (by kernel_rfl) (by simp) (AllReadyH.cons (o := ?oo13_76) ?hoo13_76 (fun K hK => ?steponly76) AllReadyH.nil); (case hoo13_76 => (simp only [List.getElem?_toArray, List.getElem?_cons_zero, List.getElem?_cons_succ]; rfl))
                  go_simp
                  refine hK.out _ _ (But.setp (p := g5) (but_of hA4.below) 0 _) (fun _ => ?_)
                  clear hK K
                  (try simp only [Act.put, List.setIfInBounds_toArray, List.set_cons_zero, List.set_cons_succ])
                  refine wpAnyH_done (by kernel_rfl) ?_ _
                  obtain ⟨U, hU⟩ : ∃ q, w3.setCell ⟨g5, 0, none⟩ (.slice A2 (al + m8) c2) = q := ⟨_, rfl⟩
                  have u5 : U.heap[g5]? = some (.cells #[.slice A2 (al + m8) c2, .int .i64 acc.total, .int .i64 0] 35) := by rw [← hU]; exact blk_set r5X 0 _
                  have ub : Below g4 w U := by rw [← hU]; exact (HQ.out.2.2.1.trans (hA4.below.mono (by have := HX.out.2.2.2; omega))).setCell (p := ⟨g5, 0, none⟩) (by have := HX.out.2.2.2; show g4 ≤ g5; omega) _
                  have u4 : U.heap[g4]? = some (.cells zw 35) := by rw [← hU]; exact blk_far (bBlk hA4.below (by have := HX.out.2.2.2; omega) HQ.out.2.1) _ (by have := HX.out.2.2.2; show g4 ≠ g5; omega)
                  have uF : U.cell? ⟨F, K * 3 + 1, none⟩ = some (.int .i64 SW.total) := by rw [← hU]; exact blk_cell (blk_far (bBlk hA4.below hFr HQ.out.2.2.2.2.2.2.2) _ (by show F ≠ g5; exact hne5)) HC81.out
                  have uiv : IvN U g5 A2 (al + m8) c2 (acc.ends ++ SW.ends) := by
                    rw [← hU]
                    refine IvN.but (ivn_own hA4.own hg5w ?_) (But.setp (p := g5) (But.refl _ _ _) 0 _)
                    exact ⟨by rw [List.length_append, HQ.out.2.2.2.2.2.1, HQ.out.2.2.2.2.2.2.1], fun z hz => by have := HQ.out.2.2.2.2.1.2.2.2 z hz; omega⟩
                  have uFs : F < U.heap.size := by rw [← hU, World.size_setCell]; have := hA4.ge; omega
                  have u5s : g5 < U.heap.size := (Array.getElem?_eq_some_iff.1 u5).1
                  rw [hU]
                  clear hU r5X k5X f5X hlt5 hA4 hS0 r1
                  have HU := Lib.hid (And.intro u5 (And.intro ub (And.intro u4 uiv)))
                  have k51 : U.drew.cell? ⟨g5, 1, none⟩ = some (.int .i64 acc.total) := blk_cell (W := U.drew) (show U.drew.heap[g5]? = _ from u5) rfl
                  have f51 := blk_frozen u5 1
                  clear u5 ub u4 uiv
                  (try simp only [Act.put, List.setIfInBounds_toArray, List.set_cons_zero, List.set_cons_succ])
                  go_upto_region 24 with (fail)
                  let S2 : World → Prop := fun w' => But U.heap.size (· = g5) U w'
                  have hS2 : S2 U.drew := (But.refl _ _ _).drew
                  have r2 : ∀ w', S2 w' → w'.cell? ⟨F, K * 3 + 1, none⟩ = some (.int .i64 SW.total) := fun w' h => (World.cell?_of_block (a := ⟨F, K * 3 + 1, none⟩) (But.block (show But U.heap.size (· = g5) U w' from h) F uFs hne5)).trans uF
                  refine wp_region_held (S := S2) (by kernel_rfl) ?_
                  change wpAnyH _ _ _ _ S2 _ _ _ U.drew
                  change At 0 _
                  iterate 1 (first | (apply tkA; (case hi => (simp only [List.getElem?_toArray, List.getElem?_cons_zero, List.getElem?_cons_succ]; rfl)); (case hw => rfl); (case hy => (intro w' hSw; (try simp only [S] at hSw); go_simp; (try with_reducible rfl))); (case hs => kernel_rfl); (case hf => kernel_rfl); (case hr => kernel_rfl); (case hQ => exact fun _ _ _ h => h); (case hS => assumption); (try simp only [Act.put, List.setIfInBounds_toArray, List.set_cons_zero, List.set_cons_succ, Nat.reduceAdd])) | (apply skA; (case hi => (simp only [List.getElem?_toArray, List.getElem?_cons_zero, List.getElem?_cons_succ]; rfl)); (case hw => rfl); (case hs => kernel_rfl); (case hf => kernel_rfl); (case hr => kernel_rfl); (case hQ => exact fun _ _ _ h => h); (case hS => assumption); (try simp only [Act.put, List.setIfInBounds_toArray, List.set_cons_zero, List.set_cons_succ, Nat.reduceAdd])))
                  change wpAnyH _ _ _ _ _ _ _ _ _
                  change At 2 _
                  iterate 7 (first | (apply tkA; (case hi => (simp only [List.getElem?_toArray, List.getElem?_cons_zero, List.getElem?_cons_succ]; rfl)); (case hw => rfl); (case hy => (intro w' hSw; have q := r2 w' hSw; (try simp only [S] at hSw); go_simp; (try with_reducible rfl))); (case hs => kernel_rfl); (case hf => kernel_rfl); (case hr => kernel_rfl); (case hQ => exact fun _ _ _ h => h); (case hS => assumption); (try simp only [Act.put, List.setIfInBounds_toArray, List.set_cons_zero, List.set_cons_succ, Nat.reduceAdd])) | (apply skA; (case hi => (simp only [List.getElem?_toArray, List.getElem?_cons_zero, List.getElem?_cons_succ]; rfl)); (case hw => rfl); (case hs => kernel_rfl); (case hf => kernel_rfl); (case hr => kernel_rfl); (case hQ => exact fun _ _ _ h => h); (case hS => assumption); (try simp only [Act.put, List.setIfInBounds_toArray, List.set_cons_zero, List.set_cons_succ, Nat.reduceAdd])))
                  change wpAnyH _ _ _ _ _ _ _ _ _
                  refine wpAnyH_ready (rs := [1]) (by kernel_rfl) (by simp) (AllReadyH.cons (o := ?oo1_77) ?hoo1_77 (fun K hK => ?steponly77) AllReadyH.nil); (case hoo1_77 => (simp only [List.getElem?_toArray, List.getElem?_cons_zero, List.getElem?_cons_succ]; rfl))
                  go_simp
                  refine hK.out _ _ hS2 (fun _ => ?_)
                  clear hK K
                  (try simp only [Act.put, List.setIfInBounds_toArray, List.set_cons_zero, List.set_cons_succ])
                  change At 9 _
                  iterate 2 (first | (apply tkA; (case hi => (simp only [List.getElem?_toArray, List.getElem?_cons_zero, List.getElem?_cons_succ]; rfl)); (case hw => rfl); (case hy => (intro w' hSw; (try simp only [S] at hSw); go_simp; (try with_reducible rfl))); (case hs => kernel_rfl); (case hf => kernel_rfl); (case hr => kernel_rfl); (case hQ => exact fun _ _ _ h => h); (case hS => assumption); (try simp only [Act.put, List.setIfInBounds_toArray, List.set_cons_zero, List.set_cons_succ, Nat.reduceAdd])) | (apply skA; (case hi => (simp only [List.getElem?_toArray, List.getElem?_cons_zero, List.getElem?_cons_succ]; rfl)); (case hw => rfl); (case hs => kernel_rfl); (case hf => kernel_rfl); (case hr => kernel_rfl); (case hQ => exact fun _ _ _ h => h); (case hS => assumption); (try simp only [Act.put, List.setIfInBounds_toArray, List.set_cons_zero, List.set_cons_succ, Nat.reduceAdd])))
                  change wpAnyH _ _ _ _ _ _ _ _ _
                  have k51b : U.drew.frozen? ⟨g5, 1, none⟩ = false := f51
                  refine wpAnyH_ready (rs := [11]) (by kernel_rfl) (by simp) (AllReadyH.cons (o := ?oo11_78) ?hoo11_78 (fun K hK => ?steponly78) AllReadyH.nil); (case hoo11_78 => (simp only [List.getElem?_toArray, List.getElem?_cons_zero, List.getElem?_cons_succ]; rfl))
                  go_simp
                  refine hK.out _ _ (But.setp (p := g5) hS2 1 _) (fun _ => ?_)
                  clear hK K
                  (try simp only [Act.put, List.setIfInBounds_toArray, List.set_cons_zero, List.set_cons_succ])
                  refine wpAnyH_done (by kernel_rfl) ?_ _
                  obtain ⟨U2, hU2⟩ : ∃ q, (U.setCell ⟨g5, 1, none⟩ (.int .i64 (acc.total + SW.total))).drew = q := ⟨_, rfl⟩
                  have e5 : U2.heap[g5]? = some (.cells #[.slice A2 (al + m8) c2, .int .i64 (acc.total + SW.total), .int .i64 0] 35) := by rw [← hU2]; exact blk_set (W := U) HU.out.1 1 _
                  have eb : Below g4 w U2 := by rw [← hU2]; exact ((HU.out.2.1).setCell (p := ⟨g5, 1, none⟩) (by have := HX.out.2.2.2; show g4 ≤ g5; omega) _).drew
                  have e4 : U2.heap[g4]? = some (.cells zw 35) := by rw [← hU2]; exact blk_far (W := U) HU.out.2.2.1 _ (by have := HX.out.2.2.2; show g4 ≠ g5; omega)
                  have eiv : IvN U2 g5 A2 (al + m8) c2 (acc.ends ++ SW.ends) := by rw [← hU2]; exact HU.out.2.2.2.but (But.setp (p := g5) (But.refl _ _ _) 1 _).drew
                  have e5s : g5 < U2.heap.size := (Array.getElem?_eq_some_iff.1 e5).1
                  have HE := Lib.hid (And.intro e5 (And.intro eb (And.intro e4 eiv)))
                  rw [hU2]
                  clear hU2 e5 eb e4 eiv k51 k51b f51 hS2 r2 HU uF
                  go_wp2_with fail
                  go_roundw
                  case rel =>
                    refine ⟨g, ⟨acc.ends ++ SW.ends, acc.total + SW.total⟩, A2, c2, htn, rfl, e5s, Lib.hid ?_⟩
                    have hlen : (acc.ends ++ SW.ends).length = al + m8 := by rw [List.length_append, HQ.out.2.2.2.2.2.1, HQ.out.2.2.2.2.2.2.1]
                    simp only
                    rw [hlen]
                    exact ⟨HE.out.2.1, HE.out.2.2.1, HE.out.1, HE.out.2.2.2, HQ.out.2.2.2.2.1, HQ.out.2.2.2.1⟩
                  case measure => simp [intOf]; omega
                case stepRA2 =>
                  go_simp
                  refine hK.out _ _ hS0 (fun _ => ?_)
                  clear hK K k5V
                  (try simp only [Act.put, List.setIfInBounds_toArray, List.set_cons_zero, List.set_cons_succ])
                  refine wpAnyH_ready (rs := [0]) (by kernel_rfl) (by simp) (AllReadyH.cons (o := ?oo0_79) ?hoo0_79 (fun K hK => ?steponly79) AllReadyH.nil); (case hoo0_79 => (simp only [List.getElem?_toArray, List.getElem?_cons_zero, List.getElem?_cons_succ]; rfl))
                  refine step_slice rfl 33 0 #[] rfl (by simp only [List.map_toArray, List.map_nil]; exact ints0 V0) ?_
                  refine Ap.go0 hA ?_
                  intro V1 ga hA2
                  refine hK.out _ _ (but_of hA2.below) (fun _ => ?_)
                  clear hK K hA
                  (try simp only [Act.put, List.setIfInBounds_toArray, List.set_cons_zero, List.set_cons_succ])
                  refine wpAnyH_ready (rs := [3]) (by kernel_rfl) (by simp) (AllReadyH.cons (o := ?oo3_80) ?hoo3_80 (fun K hK => ?steponly80) AllReadyH.nil); (case hoo3_80 => (simp only [List.getElem?_toArray, List.getElem?_cons_zero, List.getElem?_cons_succ]; rfl))
                  refine step_app _ rfl (.tmp 141) (.tmp 143) 33 rfl (base := wr.heap.size) Try.underlying33 elemI rfl hA2.own rfl (hs5.below hA2.below) (one_ivs _) (by simp only [maxLen]; omega) (by omega) hA2.ge ?_
                  intro A1 c1 w2 hown1 hg1 hb1 hat1
                  simp only [Nat.zero_add, List.nil_append] at hown1 hat1 ⊢
                  have hA3 := hA2.app hown1 hg1 hb1 hat1
                  refine hK.out _ _ (but_of hA3.below) (fun _ => ?_)
                  clear hK K hown1 hg1 hb1 hat1 hA2
                  (try simp only [Act.put, List.setIfInBounds_toArray, List.set_cons_zero, List.set_cons_succ])
                  refine wpAnyH_ready (rs := [11]) (by kernel_rfl) (by simp) (AllReadyH.cons (o := ?oo11_81) ?hoo11_81 (fun K hK => ?steponly81) AllReadyH.nil); (case hoo11_81 => (simp only [List.getElem?_toArray, List.getElem?_cons_zero, List.getElem?_cons_succ]; rfl))
                  refine step_app _ rfl (.tmp 144) (.tmp 151) 33 rfl (base := wr.heap.size) Try.underlying33 elemI rfl hA3.own rfl (hs8.below hA3.below) (one_ivs _) (by simp only [maxLen]; omega) (by omega) hA3.ge ?_
                  intro A2 c2 w3 hown1 hg1 hb1 hat1
                  have hA4 := hA3.app hown1 hg1 hb1 hat1
                  refine hK.out _ _ (but_of hA4.below) (fun _ => ?_)
                  clear hK K hown1 hg1 hb1 hat1 hA3
                  (try simp only [Act.put, List.setIfInBounds_toArray, List.set_cons_zero, List.set_cons_succ])
                  refine wpAnyH_take (i := 12) (oi := ?oi_2) (v := ?v_2) ?ho_2 ?h1_2 ?h2_2 ?h3_2 ?hq_2 (Or.inl ⟨?hw_2, ?hy_2⟩) ?hs_2 ?rest_2; (case h2_2 => kernel_rfl); (case h3_2 => kernel_rfl); (case ho_2 => (simp only [List.getElem?_toArray, List.getElem?_cons_zero, List.getElem?_cons_succ]; rfl)); (case h1_2 => kernel_rfl); (case hq_2 => exact fun _ _ _ h => h); (case hw_2 => rfl); (case hy_2 => (intro w' hSw; (try simp only [S] at hSw); go_simp; (try with_reducible rfl))); (case hs_2 => assumption); (try simp only [Act.put, List.setIfInBounds_toArray, List.set_cons_zero, List.set_cons_succ])
                  have r5X := bBlk hA4.below hg5w HQ.out.1
                  have k5X : w3.cell? ⟨g5, 0, none⟩ = some (.slice A5 al c5) := blk_cell r5X rfl
                  have f5X := blk_frozen r5X 0
                  have hlt5 := (Array.getElem?_eq_some_iff.1 r5X).1
                  refine wpAnyH_ready (rs := [13]) (by kernel_rfl) (by simp) (AllReadyH.cons (o := ?oo13_82) ?hoo13_82 (fun K hK => ?steponly82) AllReadyH.nil); (case hoo13_82 => (simp only [List.getElem?_toArray, List.getElem?_cons_zero, List.getElem?_cons_succ]; rfl))
                  go_simp
                  refine hK.out _ _ (But.setp (p := g5) (but_of hA4.below) 0 _) (fun _ => ?_)
                  clear hK K
                  (try simp only [Act.put, List.setIfInBounds_toArray, List.set_cons_zero, List.set_cons_succ])
                  refine wpAnyH_done (by kernel_rfl) ?_ _
                  obtain ⟨U, hU⟩ : ∃ q, w3.setCell ⟨g5, 0, none⟩ (.slice A2 (al + m8) c2) = q := ⟨_, rfl⟩
                  have u5 : U.heap[g5]? = some (.cells #[.slice A2 (al + m8) c2, .int .i64 acc.total, .int .i64 0] 35) := by rw [← hU]; exact blk_set r5X 0 _
                  have ub : Below g4 w U := by rw [← hU]; exact (HQ.out.2.2.1.trans (hA4.below.mono (by have := HX.out.2.2.2; omega))).setCell (p := ⟨g5, 0, none⟩) (by have := HX.out.2.2.2; show g4 ≤ g5; omega) _
                  have u4 : U.heap[g4]? = some (.cells zw 35) := by rw [← hU]; exact blk_far (bBlk hA4.below (by have := HX.out.2.2.2; omega) HQ.out.2.1) _ (by have := HX.out.2.2.2; show g4 ≠ g5; omega)
                  have uF : U.cell? ⟨F, K * 3 + 1, none⟩ = some (.int .i64 SW.total) := by rw [← hU]; exact blk_cell (blk_far (bBlk hA4.below hFr HQ.out.2.2.2.2.2.2.2) _ (by show F ≠ g5; exact hne5)) HC81.out
                  have uiv : IvN U g5 A2 (al + m8) c2 (acc.ends ++ SW.ends) := by
                    rw [← hU]
                    refine IvN.but (ivn_own hA4.own hg5w ?_) (But.setp (p := g5) (But.refl _ _ _) 0 _)
                    exact ⟨by rw [List.length_append, HQ.out.2.2.2.2.2.1, HQ.out.2.2.2.2.2.2.1], fun z hz => by have := HQ.out.2.2.2.2.1.2.2.2 z hz; omega⟩
                  have uFs : F < U.heap.size := by rw [← hU, World.size_setCell]; have := hA4.ge; omega
                  have u5s : g5 < U.heap.size := (Array.getElem?_eq_some_iff.1 u5).1
                  rw [hU]
                  clear hU r5X k5X f5X hlt5 hA4 hS0 r1
                  have HU := Lib.hid (And.intro u5 (And.intro ub (And.intro u4 uiv)))
                  have k51 : U.drew.cell? ⟨g5, 1, none⟩ = some (.int .i64 acc.total) := blk_cell (W := U.drew) (show U.drew.heap[g5]? = _ from u5) rfl
                  have f51 := blk_frozen u5 1
                  clear u5 ub u4 uiv
                  (try simp only [Act.put, List.setIfInBounds_toArray, List.set_cons_zero, List.set_cons_succ])
                  go_upto_region 24 with (fail)
                  let S2 : World → Prop := fun w' => But U.heap.size (· = g5) U w'
                  have hS2 : S2 U.drew := (But.refl _ _ _).drew
                  have r2 : ∀ w', S2 w' → w'.cell? ⟨F, K * 3 + 1, none⟩ = some (.int .i64 SW.total) := fun w' h => (World.cell?_of_block (a := ⟨F, K * 3 + 1, none⟩) (But.block (show But U.heap.size (· = g5) U w' from h) F uFs hne5)).trans uF
                  refine wp_region_held (S := S2) (by kernel_rfl) ?_
                  change wpAnyH _ _ _ _ S2 _ _ _ U.drew
                  change At 0 _
                  iterate 1 (first | (apply tkA; (case hi => (simp only [List.getElem?_toArray, List.getElem?_cons_zero, List.getElem?_cons_succ]; rfl)); (case hw => rfl); (case hy => (intro w' hSw; (try simp only [S] at hSw); go_simp; (try with_reducible rfl))); (case hs => kernel_rfl); (case hf => kernel_rfl); (case hr => kernel_rfl); (case hQ => exact fun _ _ _ h => h); (case hS => assumption); (try simp only [Act.put, List.setIfInBounds_toArray, List.set_cons_zero, List.set_cons_succ, Nat.reduceAdd])) | (apply skA; (case hi => (simp only [List.getElem?_toArray, List.getElem?_cons_zero, List.getElem?_cons_succ]; rfl)); (case hw => rfl); (case hs => kernel_rfl); (case hf => kernel_rfl); (case hr => kernel_rfl); (case hQ => exact fun _ _ _ h => h); (case hS => assumption); (try simp only [Act.put, List.setIfInBounds_toArray, List.set_cons_zero, List.set_cons_succ, Nat.reduceAdd])))
                  change wpAnyH _ _ _ _ _ _ _ _ _
                  change At 2 _
                  iterate 7 (first | (apply tkA; (case hi => (simp only [List.getElem?_toArray, List.getElem?_cons_zero, List.getElem?_cons_succ]; rfl)); (case hw => rfl); (case hy => (intro w' hSw; have q := r2 w' hSw; (try simp only [S] at hSw); go_simp; (try with_reducible rfl))); (case hs => kernel_rfl); (case hf => kernel_rfl); (case hr => kernel_rfl); (case hQ => exact fun _ _ _ h => h); (case hS => assumption); (try simp only [Act.put, List.setIfInBounds_toArray, List.set_cons_zero, List.set_cons_succ, Nat.reduceAdd])) | (apply skA; (case hi => (simp only [List.getElem?_toArray, List.getElem?_cons_zero, List.getElem?_cons_succ]; rfl)); (case hw => rfl); (case hs => kernel_rfl); (case hf => kernel_rfl); (case hr => kernel_rfl); (case hQ => exact fun _ _ _ h => h); (case hS => assumption); (try simp only [Act.put, List.setIfInBounds_toArray, List.set_cons_zero, List.set_cons_succ, Nat.reduceAdd])))
                  change wpAnyH _ _ _ _ _ _ _ _ _
                  refine wpAnyH_ready (rs := [1]) (by kernel_rfl) (by simp) (AllReadyH.cons (o := ?oo1_83) ?hoo1_83 (fun K hK => ?steponly83) AllReadyH.nil); (case hoo1_83 => (simp only [List.getElem?_toArray, List.getElem?_cons_zero, List.getElem?_cons_succ]; rfl))
                  go_simp
                  refine hK.out _ _ hS2 (fun _ => ?_)
                  clear hK K
                  (try simp only [Act.put, List.setIfInBounds_toArray, List.set_cons_zero, List.set_cons_succ])
                  change At 9 _
                  iterate 2 (first | (apply tkA; (case hi => (simp only [List.getElem?_toArray, List.getElem?_cons_zero, List.getElem?_cons_succ]; rfl)); (case hw => rfl); (case hy => (intro w' hSw; (try simp only [S] at hSw); go_simp; (try with_reducible rfl))); (case hs => kernel_rfl); (case hf => kernel_rfl); (case hr => kernel_rfl); (case hQ => exact fun _ _ _ h => h); (case hS => assumption); (try simp only [Act.put, List.setIfInBounds_toArray, List.set_cons_zero, List.set_cons_succ, Nat.reduceAdd])) | (apply skA; (case hi => (simp only [List.getElem?_toArray, List.getElem?_cons_zero, List.getElem?_cons_succ]; rfl)); (case hw => rfl); (case hs => kernel_rfl); (case hf => kernel_rfl); (case hr => kernel_rfl); (case hQ => exact fun _ _ _ h => h); (case hS => assumption); (try simp only [Act.put, List.setIfInBounds_toArray, List.set_cons_zero, List.set_cons_succ, Nat.reduceAdd])))
                  change wpAnyH _ _ _ _ _ _ _ _ _
                  have k51b : U.drew.frozen? ⟨g5, 1, none⟩ = false := f51
                  refine wpAnyH_ready (rs := [11]) (by kernel_rfl) (by simp) (AllReadyH.cons (o := ?oo11_84) ?hoo11_84 (fun K hK => ?steponly84) AllReadyH.nil); (case hoo11_84 => (simp only [List.getElem?_toArray, List.getElem?_cons_zero, List.getElem?_cons_succ]; rfl))
                  go_simp
                  refine hK.out _ _ (But.setp (p := g5) hS2 1 _) (fun _ => ?_)
                  clear hK K
                  (try simp only [Act.put, List.setIfInBounds_toArray, List.set_cons_zero, List.set_cons_succ])
                  refine wpAnyH_done (by kernel_rfl) ?_ _
                  obtain ⟨U2, hU2⟩ : ∃ q, (U.setCell ⟨g5, 1, none⟩ (.int .i64 (acc.total + SW.total))).drew = q := ⟨_, rfl⟩
                  have e5 : U2.heap[g5]? = some (.cells #[.slice A2 (al + m8) c2, .int .i64 (acc.total + SW.total), .int .i64 0] 35) := by rw [← hU2]; exact blk_set (W := U) HU.out.1 1 _
                  have eb : Below g4 w U2 := by rw [← hU2]; exact ((HU.out.2.1).setCell (p := ⟨g5, 1, none⟩) (by have := HX.out.2.2.2; show g4 ≤ g5; omega) _).drew
                  have e4 : U2.heap[g4]? = some (.cells zw 35) := by rw [← hU2]; exact blk_far (W := U) HU.out.2.2.1 _ (by have := HX.out.2.2.2; show g4 ≠ g5; omega)
                  have eiv : IvN U2 g5 A2 (al + m8) c2 (acc.ends ++ SW.ends) := by rw [← hU2]; exact HU.out.2.2.2.but (But.setp (p := g5) (But.refl _ _ _) 1 _).drew
                  have e5s : g5 < U2.heap.size := (Array.getElem?_eq_some_iff.1 e5).1
                  have HE := Lib.hid (And.intro e5 (And.intro eb (And.intro e4 eiv)))
                  rw [hU2]
                  clear hU2 e5 eb e4 eiv k51 k51b f51 hS2 r2 HU uF
                  go_wp2_with fail
                  go_roundw
                  case rel =>
                    refine ⟨g, ⟨acc.ends ++ SW.ends, acc.total + SW.total⟩, A2, c2, htn, rfl, e5s, Lib.hid ?_⟩
                    have hlen : (acc.ends ++ SW.ends).length = al + m8 := by rw [List.length_append, HQ.out.2.2.2.2.2.1, HQ.out.2.2.2.2.2.2.1]
                    simp only
                    rw [hlen]
                    exact ⟨HE.out.2.1, HE.out.2.2.1, HE.out.1, HE.out.2.2.2, HQ.out.2.2.2.2.1, HQ.out.2.2.2.1⟩
                  case measure => simp [intOf]; omega
set_option maxRecDepth 100000 in
theorem rbest_no {A : Option Addr} {n c : Nat} {h : Int} (w : World) (hw : h < 3 ∨ (3 ≤ h ∧ 20 < h) ∨ (3 ≤ h ∧ h ≤ 20 ∧ 300 < n)) : Calls Try.prog 15 #[.slice A n c, .int .i64 h] w (SecP w wy0) := by
  have hb0 : Try.prog.built 35 [] = some wyz := by kernel_rfl
  have hwz := wyZ
  have hw3 : (Try.prog.info? 35).map (·.size) = some wyz.size := wy_size
  have hc1 : wyz.all (·.oneCell') = true := by simp [wyz, Value.oneCell']
  obtain ⟨zw, hzw⟩ : ∃ q, wyz = q := ⟨_, rfl⟩
  rw [hzw] at hb0 hwz hw3 hc1
  have HZ := Lib.hid hzw
  clear hzw
  have hfin : ∀ X9 : World, Below w.heap.size w X9 → SecP w wy0 (.returned (.agg zw)) X9 := fun X9 hB => ⟨none, 0, 0, by rw [← HZ.out]; rfl, ⟨by simp [wy0], rfl, Sl.nil, Nat.le_refl _⟩, hB⟩
  have HFI := Lib.hid hfin
  clear hfin
  go_enter Try.func15, Try.ntmps15
  go_upto_region 1 with (first | (refine wpList_new rfl hwz rfl ?_) | fail)
  obtain ⟨W1, hW1⟩ : ∃ q, w.alloc (.cells zw 35) = q := ⟨_, rfl⟩
  have y4 : W1.heap[w.heap.size]? = some (.cells zw 35) := by rw [← hW1]; exact heap_alloc_new _ _
  have hB1 : Below w.heap.size w W1 := by rw [← hW1]; exact (Below.refl _ _).alloc (Nat.le_refl _) _
  rw [hW1]
  clear hW1
  obtain ⟨X, hX, y5, bX⟩ := newRow W1 zw zw 35
  have y4X := bBlk bX (Array.getElem?_eq_some_iff.1 y4).1 y4
  have HB := Lib.hid (bNext hB1 bX)
  clear y4 hB1 bX
  go_upto_region 2 with (first
    | (refine wpList_built rfl 35 #[] rfl (cs := zw) (by simp only [List.map_toArray, List.map_nil]; exact hb0) ?_)
    | (refine wpList_new rfl hwz rfl ?_)
    | (refine wpList_store_row rfl 35 (.tmp 5) (.tmp 14) rfl _ zw rfl rfl _ zw (heap_alloc_new _ _) hw3 rfl hc1 ?_)
    | fail)
  try rw [hX]
  clear hX hb0
  rcases hw with g1 | ⟨g1, g2⟩ | ⟨g1, g2, g3⟩
  · go_wp2_with (first
      | (refine wpList_load_row rfl 35 (.tmp 5) rfl _ rfl _ zw (0, 0) _ y5 Try.underlying35 rfl hw3 ?_)
      | (refine wpList_store_row rfl 35 (.tmp 4) (.tmp 26) rfl _ zw rfl rfl _ zw y4X hw3 rfl hc1 ?_)
      | fail)
    generalize hX9 : World.setRow _ _ _ = X9
    have b9 : X9.heap[w.heap.size]? = some (.cells zw 35) := by rw [← hX9]; exact setRow_heap _ _ _ _ _ _ y4X
    have hBX : Below w.heap.size w X9 := by rw [← hX9]; exact bSetRow HB.out (Nat.le_refl _) _
    clear hX9
    refine bodyPost_ret (results_cell_row Try.results15 _ X9 w.heap.size 35 zw (0, 0) _ ?_ b9 Try.underlying35 rfl hw3) rfl ?_
    · rfl
    exact HFI.out X9 hBX
  · have n1 : ¬ h < 3 := by omega
    go_wp2_with (first
      | (refine wpList_load_row rfl 35 (.tmp 5) rfl _ rfl _ zw (0, 0) _ y5 Try.underlying35 rfl hw3 ?_)
      | (refine wpList_store_row rfl 35 (.tmp 4) (.tmp 26) rfl _ zw rfl rfl _ zw y4X hw3 rfl hc1 ?_)
      | fail)
    generalize hX9 : World.setRow _ _ _ = X9
    have b9 : X9.heap[w.heap.size]? = some (.cells zw 35) := by rw [← hX9]; exact setRow_heap _ _ _ _ _ _ y4X
    have hBX : Below w.heap.size w X9 := by rw [← hX9]; exact bSetRow HB.out (Nat.le_refl _) _
    clear hX9
    refine bodyPost_ret (results_cell_row Try.results15 _ X9 w.heap.size 35 zw (0, 0) _ ?_ b9 Try.underlying35 rfl hw3) rfl ?_
    · rfl
    exact HFI.out X9 hBX
  · have n1 : ¬ h < 3 := by omega
    have n2 : ¬ 20 < h := by omega
    have n3 : (300 : Int) < (n : Int) := by omega
    go_wp2_with (first
      | (refine wpList_load_row rfl 35 (.tmp 5) rfl _ rfl _ zw (0, 0) _ y5 Try.underlying35 rfl hw3 ?_)
      | (refine wpList_store_row rfl 35 (.tmp 4) (.tmp 26) rfl _ zw rfl rfl _ zw y4X hw3 rfl hc1 ?_)
      | fail)
    generalize hX9 : World.setRow _ _ _ = X9
    have b9 : X9.heap[w.heap.size]? = some (.cells zw 35) := by rw [← hX9]; exact setRow_heap _ _ _ _ _ _ y4X
    have hBX : Below w.heap.size w X9 := by rw [← hX9]; exact bSetRow HB.out (Nat.le_refl _) _
    clear hX9
    refine bodyPost_ret (results_cell_row Try.results15 _ X9 w.heap.size 35 zw (0, 0) _ ?_ b9 Try.underlying35 rfl hw3) rfl ?_
    · rfl
    exact HFI.out X9 hBX
theorem rbest_any {A : Option Addr} {n c : Nat} {h : Int} {l : List LN} (w : World) (hl : LnAt w w.heap.size A n c l) (hone : ∀ x ∈ l, x.One) : Calls Try.prog 15 #[.slice A n c, .int .i64 h] w (SecP w (bestP l h)) := by
  have hln := hl.len
  unfold bestP
  by_cases hg : 3 ≤ h ∧ h ≤ 20 ∧ l.length ≤ 300
  · rw [if_pos hg, hln]
    exact rbest_yes w hl hone hg.1 hg.2.1 (by omega)
  · rw [if_neg hg]
    exact rbest_no w (by omega)
end Go.Proofs.Ytdnpcplboohdpaa
