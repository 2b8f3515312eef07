/- SheetBack: the walk. -/
import Derived.Test.YtiffcdeagckgmaaDoorShPlaces
namespace Go.Proofs.YtiffcdeagckgmaaDoor
set_option linter.unusedSimpArgs false
set_option linter.unusedVariables false
open Go.RowKit Go.ChangeShapes Go.WideShapes Go.Sort Go.Deep
attribute [-go_sem] Builtin.append_

theorem RSame.trans {a b c : List (LN × List PC)} (h : RSame a b) (k : RSame b c) : RSame a c := ⟨h.len.trans k.len, fun i r s h1 h2 => by
  obtain ⟨q, hq⟩ : ∃ q, b[i]? = some q := ⟨_, List.getElem?_eq_getElem (by rw [← h.len]; exact (List.getElem?_eq_some_iff.1 h1).1)⟩
  have x := h.at_ i r q h1 hq
  have y := k.at_ i q s hq h2
  exact ⟨x.kind.trans y.kind, x.first.trans y.first, x.last.trans y.last, x.over.trans y.over, x.pcs.trans y.pcs⟩⟩
theorem Sl.take8 {w : World} {B n : Nat} {A : Option Addr} {x : List UInt8} (h : Sl w B 1 A n (bvs x)) (hx : x.length = n) {k : Nat} (hk : k ≤ n) : Sl w B 1 A k (bvs (x.take k)) := by
  refine ⟨by rw [bvs_len, List.length_take]; omega, fun h0 => ?_⟩
  obtain ⟨b, o, e, hb, hr⟩ := h.at_ (by omega)
  refine ⟨b, o, e, hb, ?_⟩
  have := range_cut hr 0 k
  rw [List.drop_zero, Nat.add_zero] at this
  rw [bvs, List.map_take]
  exact this
set_option maxRecDepth 100000 in
set_option maxHeartbeats 16000000 in
theorem sheetBack_walk {H : Type} {enc : TypeId × Value → H} {W : World} {base : Nat} {v0 v1 : Value} {d0 d1 : DataW H} {p0 p1 : List MemPlace}
    (k0 : Value.okWide Tryd.prog W .any base 24 v0) (h0 : DataW.Trod enc Tryd.prog W 0 (fun _ => true) true 24 v0 d0 p0)
    (k1 : Value.okWide Tryd.prog W .any base 25 v1) (h1 : DataW.Trod enc Tryd.prog W 0 (fun _ => true) true 25 v1 d1 p1) (hT : Tabs W)
    : Calls Tryd.prog 4 #[v0, v1] W fun e W' => e = .returned (.bool true) ∧ Below W.heap.size W W' := by
  obtain ⟨num, A, n, c, l, rfl, hnum, hl, hc⟩ := open_sheet k0 h0
  obtain ⟨Ab, nb, cb, bb, rfl, hbl, hbc, hbm, -, hbs⟩ := open_bytes_sl Tryd.underlying25 Tryd.underlying5 (by kernel_rfl) k1 h1
  clear k0 h0 k1 h1
  have hm9 := hc
  have hm8 := hbm
  simp only [maxLen] at hm9 hm8
  have HT := Lib.hid hT
  have HL := Lib.hid (And.intro hl hc)
  have HB0 := Lib.hid (And.intro hbl (And.intro hbm hbs))
  clear hl hc hT hbl hbm hbs
  go_enter Tryd.func4, Tryd.ntmps4
  go_wp2_with fail
  obtain ⟨W0, hW0⟩ : ∃ q, W.alloc (.cells #[.int .i64 num, .slice A n c] 24) = q := ⟨_, rfl⟩
  have r0 : W0.heap[W.heap.size]? = some (.cells #[.int .i64 num, .slice A n c] 24) := by rw [← hW0]; exact heap_alloc_new _ _
  have b0 : Below W.heap.size W W0 := by rw [← hW0]; exact (Below.refl _ _).alloc (Nat.le_refl _) _
  rw [hW0]
  clear hW0
  have hz0 := (Array.getElem?_eq_some_iff.1 r0).1
  have HW0 := Lib.hid (And.intro r0 b0)
  clear r0 b0
  refine Calls.mono (fair_any W0 (HL.out.1.nxt HW0.out.2) HL.out.2) ?_
  rintro e w1 ⟨fb, rfl, hfn, b1⟩
  have hW1 := bNext HW0.out.2 b1
  have r1 := bBlk b1 hz0 HW0.out.1
  have HFN := Lib.hid hfn
  clear hfn
  cases fb
  · have HB := Lib.hid hW1
    clear hW1 r1 b1
    go_wp2_with fail
    refine Calls.mono (wakes_any _ (HT.out.below HB.out)) ?_
    rintro e w2 ⟨rfl, b2⟩
    have HB2 := Lib.hid (bNext HB.out b2)
    clear b2
    go_wp2_with fail
    go_ret
    exact ⟨rfl, HB2.out⟩
  · by_cases hlong : 2000 < nb
    · have z9 : (2000 : Int) < nb := by omega
      have HB := Lib.hid hW1
      clear hW1 r1 b1
      go_wp2_with fail
      refine Calls.mono (wakes_any _ (HT.out.below HB.out)) ?_
      rintro e w2 ⟨rfl, b2⟩
      have HB2 := Lib.hid (bNext HB.out b2)
      clear b2
      go_wp2_with fail
      go_ret
      exact ⟨rfl, HB2.out⟩
    · have z9 : ¬ (2000 : Int) < nb := by omega
      have k0 : w1.cell? ⟨W.heap.size, 0, none⟩ = some (.int .i64 num) := blk_cell r1 rfl
      have k1 : w1.cell? ⟨W.heap.size, 1, none⟩ = some (.slice A n c) := blk_cell r1 rfl
      have hz1 := (Array.getElem?_eq_some_iff.1 r1).1
      have hE : ∃ er : Int, (er = 0 ∧ GoodP num l ∨ er = 11 ∧ ¬ GoodP num l) ∧ Calls Tryd.prog 10 #[.agg #[.int .i64 num, .slice A n c]] w1 (EncP w1 (if er = 0 then encB num l else []) er) := by
        by_cases hgood : GoodP num l
        · exact ⟨0, .inl ⟨rfl, hgood⟩, enc_yes hnum w1 (HL.out.1.nxt hW1) HL.out.2 (HT.out.below hW1) hgood⟩
        · exact ⟨11, .inr ⟨rfl, hgood⟩, enc_not hnum w1 (HL.out.1.nxt hW1) HL.out.2 (HT.out.below hW1) hgood⟩
      obtain ⟨er, hcase, hE⟩ := hE
      obtain ⟨xb, hxb⟩ : ∃ q, (if er = 0 then encB num l else []) = q := ⟨_, rfl⟩
      rw [hxb] at hE
      have HE := Lib.hid hE
      have HG := Lib.hid (And.intro hcase hxb)
      have HB := Lib.hid (And.intro hW1 r1)
      clear hE hcase hxb hW1 r1 b1
      go_wp2_with fail
      refine Calls.mono HE.out ?_
      rintro e V ⟨A2, n2, c2, rfl, hn2, hnc2, hcm2, -, hsl2, b2⟩
      have hW2 := bNext HB.out.1 b2
      have r2 := bBlk b2 hz1 HB.out.2
      have hgV : W.heap.size < V.heap.size := by have := b2.size; omega
      have j0 : V.cell? ⟨W.heap.size, 0, none⟩ = some (.int .i64 num) := blk_cell r2 rfl
      have j1 : V.cell? ⟨W.heap.size, 1, none⟩ = some (.slice A n c) := blk_cell r2 rfl
      have HV := Lib.hid (And.intro hW2 (And.intro r2 (And.intro hn2 hsl2)))
      clear HB HE hW2 r2 hn2 hsl2 b2 k0 k1
      go_upto_if 33 with (fail)
      go_cut [7, 8, 9, 10, 11, 12] from 34 to 82 (fun s7 s8 s9 s10 s11 s12 wx => Below V.heap.size V wx)
      case first =>
        obtain ⟨hcase, hxb⟩ := HG.out
        rcases hcase with ⟨rfl, hgood⟩ | ⟨rfl, hbad⟩
        case inr =>
          clear hbad hxb j0 j1
          go_wp2_with fail
          go_meet
          exact Below.refl _ _
        rw [if_pos rfl] at hxb
        have hok : OkD xb := by rw [← hxb]; exact okD_enc hgood
        have hdn : decN xb = num := by rw [← hxb]; exact decN_enc hgood
        have hds : RSame (decS xb).1 l := by rw [← hxb]; exact decS_enc hgood
        have hlen2 := okD_len hok
        have hxl : xb.length ≤ 1000 := by rw [← hxb]; exact hgood.2
        obtain ⟨hW2, r2, hn2, hsl2⟩ := HV.out
        have u1 : 2 ≤ n2 := by omega
        have u2 : n2 ≤ 1000 := by omega
        have u3 : ¬ (n2 : Int) < 2 := by omega
        have u4 : ¬ (1000 : Int) < n2 := by omega
        have hD := dec_any V hsl2 hnc2 hcm2 (by omega) (HT.out.below hW2)
        have HD := Lib.hid hD
        have HK := Lib.hid (And.intro hok (And.intro hdn hds))
        clear hW2 r2 hn2 hsl2 hD hok hdn hds hgood hxb hlen2 hxl j0 j1
        go_wp2_with fail
        refine Calls.mono HD.out ?_
        rintro e w3 ⟨num3, A3, n3, c3, l3, er3, rfl, b3, hr3, hc3, -, -, hdd⟩
        rcases hdd with ⟨rfl, -, hnum3, hsm⟩ | ⟨-, hno, -⟩
        case inr => exact absurd HK.out.1 hno
        rw [HK.out.2.1] at hnum3
        have hsm3 := hsm.trans HK.out.2.2
        obtain ⟨W4, hW4⟩ : ∃ q, w3.alloc (.cells #[.int .i64 num3, .slice A3 n3 c3] 24) = q := ⟨_, rfl⟩
        have hz3 : V.heap.size ≤ w3.heap.size := b3.size
        have b4 : Below V.heap.size V W4 := by rw [← hW4]; exact b3.alloc hz3 _
        have b34 : Below w3.heap.size w3 W4 := by rw [← hW4]; exact (Below.refl _ _).alloc (Nat.le_refl _) _
        have r4 : W4.heap[w3.heap.size]? = some (.cells #[.int .i64 num3, .slice A3 n3 c3] 24) := by rw [← hW4]; exact heap_alloc_new _ _
        have r5 := bBlk b4 hgV HV.out.2.1
        have q0 : W4.cell? ⟨W.heap.size, 0, none⟩ = some (.int .i64 num) := blk_cell r5 rfl
        have q1 : W4.cell? ⟨W.heap.size, 1, none⟩ = some (.slice A n c) := blk_cell r5 rfl
        have q2 : W4.cell? ⟨w3.heap.size, 0, none⟩ = some (.int .i64 num3) := blk_cell r4 rfl
        have q3 : W4.cell? ⟨w3.heap.size, 1, none⟩ = some (.slice A3 n3 c3) := blk_cell r4 rfl
        have hgW4 : W.heap.size < W4.heap.size := (Array.getElem?_eq_some_iff.1 r5).1
        have hg4W : w3.heap.size < W4.heap.size := (Array.getElem?_eq_some_iff.1 r4).1
        have HW4 := Lib.hid hW4
        have HB4 := Lib.hid (And.intro b4 (And.intro (hr3.nxt b34) (And.intro hsm3 hnum3)))
        clear hW4 b4 b34 r4 r5 hr3 hsm hsm3 hnum3 b3 HD
        go_upto_region 6 with (fail)
        rw [HW4.out]
        obtain ⟨g4, hg4⟩ : ∃ q, w3.heap.size = q := ⟨_, rfl⟩
        rw [hg4] at q2 q3 hz3 hg4W ⊢
        clear HW4 hg4
        go_wp2_with fail
        obtain ⟨hB4, hr4, hsm4, hnn⟩ := HB4.out
        subst hnn
        obtain ⟨W5, hW5⟩ : ∃ q, (W4.alloc (.cells #[.int .i64 num3, .slice A3 n3 c3] 24)).alloc (.cells #[.int .i64 num3, .slice A n c] 24) = q := ⟨_, rfl⟩
        have b5 : Below W4.heap.size W4 W5 := by rw [← hW5]; exact ((Below.refl _ _).alloc (Nat.le_refl _) _).alloc (by simp) _
        have r7 : W5.heap[W4.heap.size]? = some (.cells #[.int .i64 num3, .slice A3 n3 c3] 24) := by
          rw [← hW5]; exact (Below.heap_alloc _ _ _ (by simp)).trans (heap_alloc_new _ _)
        have r8 : W5.heap[W4.heap.size + 1]? = some (.cells #[.int .i64 num3, .slice A n c] 24) := by rw [← hW5]; exact heap_alloc_new2 _ _ _
        rw [hW5]
        clear hW5
        have hb5 : Below V.heap.size V W5 := bNext hB4 b5
        have hn3 : n3 ≤ 1000000 := by
          have e1 := hr4.len
          have e2 := hsm4.len
          have e3 := HL.out.1.len
          have e4 := (HFN.out trivial).1
          omega
        have hsh := sheets_same (o1 := 0) (o2 := 0) (c := 1) (c' := 1) W5 (Nat.le_refl _) (Nat.le_refl _) (blk_cell r7 rfl) (blk_cell r7 rfl) (blk_cell r8 rfl) (blk_cell r8 rfl) (Array.getElem?_eq_some_iff.1 r7).1 (Array.getElem?_eq_some_iff.1 r8).1 (hr4.nxt b5) (HL.out.1.nxt (bNext HV.out.1 hb5)) hsm4 hn3
        have HSH := Lib.hid hsh
        have HB5 := Lib.hid hb5
        clear hB4 hr4 hsm4 b5 r7 r8 hb5 hsh HB4 q0 q1 q2 q3 hn3
        refine Calls.mono HSH.out ?_
        rintro e w6 ⟨rfl, b6⟩
        have hb6 := bNext HB5.out b6
        have HB6 := Lib.hid hb6
        have hV6 : V.heap.size ≤ w6.heap.size := hb6.size
        clear HSH HB5 b6 hb6 hgW4 hg4W hz3
        go_wp2_with fail
        have hx6 := (HV.out.2.2.2).next HB6.out
        have hxl : xb.length = n2 := HV.out.2.2.1.symm
        have hno := okD_less HK.out.1
        rw [hxl] at hno
        have hD := dec_any w6 (hx6.take8 hxl (k := n2 - 1) (by omega)) (by omega) hcm2 (by omega) (HT.out.below (bNext HV.out.1 HB6.out))
        have HD := Lib.hid hD
        have HNO := Lib.hid hno
        have HXL := Lib.hid hxl
        clear hx6 hno hD hxl
        refine Calls.mono HD.out ?_
        rintro e w7 ⟨num7, A7, n7, c7, l7, er7, rfl, b7, -, -, -, -, hdd⟩
        rcases hdd with ⟨-, hyes, -⟩ | ⟨rfl, -, rfl, rfl, rfl, rfl, -⟩
        case inl => exact absurd hyes HNO.out
        have hb7 := bNext HB6.out b7
        obtain ⟨W8, hW8⟩ : ∃ q, w7.alloc (.cells #[.int .i64 0, .slice none 0 0] 24) = q := ⟨_, rfl⟩
        have b8 : Below V.heap.size V W8 := by rw [← hW8]; exact hb7.alloc hb7.size _
        have HW8 := Lib.hid hW8
        clear hW8 hb7 b7 HD
        go_upto_region 9 with (fail)
        rw [HW8.out]
        have hV8 := b8.size
        have hx8 : Sl (W8.alloc (.cells #[] 5)) (W8.alloc (.cells #[] 5)).heap.size 1 A2 n2 (bvs xb) := (HV.out.2.2.2).next (b8.alloc hV8 _)
        have ho8 := own_none' W8 W8.heap.size 5 1 (Nat.le_refl _)
        have hs8 : W8.heap.size ≤ (W8.alloc (.cells #[] 5)).heap.size := by simp
        have HB8 := Lib.hid b8
        clear HW8 b8
        go_wp2_with (first
          | (refine wpList_app _ rfl (.tmp 69) (.tmp 70) 25 rfl (base := W8.heap.size) Tryd.underlying25 elemC rfl ho8 rfl hx8 (oneCell_bvs _) (by simp only [maxLen]; omega) (by omega) hs8 ?_)
          | fail)
        intro A71 c71 w71 hown71 hg71 hb71 hat71
        have hB71 : Below W8.heap.size W8 w71 := ((Below.refl _ _).alloc (Nat.le_refl _) _).trans hb71
        have hz71 := hB71.size
        have ho71 := hown71.alloc (.cells #[.int .u8 1] 5)
        have hb1 : bvs [1] = [.int .u8 1] := by rfl
        have hx72 : Sl (w71.alloc (.cells #[.int .u8 1] 5)) (w71.alloc (.cells #[.int .u8 1] 5)).heap.size 1 (some ⟨w71.heap.size, 0, none⟩) 1 (bvs [1]) := by
          rw [hb1]
          exact Sl.new (sz := 1) (n := 1) (heap_alloc_new w71 _) rfl
        have hs71 : W8.heap.size ≤ (w71.alloc (.cells #[.int .u8 1] 5)).heap.size := by simp; omega
        have HB71 := Lib.hid hB71
        clear hx8 ho8 hs8 hown71 hg71 hb71 hat71 hB71 hb1
        (try simp only [Act.put, List.setIfInBounds_toArray, List.set_cons_zero, List.set_cons_succ])
        go_wp2_with (first
          | (refine wpList_app _ rfl (.tmp 71) (.tmp 72) 25 rfl (base := W8.heap.size) Tryd.underlying25 elemC rfl ho71 rfl hx72 (oneCell_bvs _) (by simp only [maxLen]; omega) (by omega) hs71 ?_)
          | fail)
        intro A73 c73 w73 hown73 hg73 hb73 hat73
        have hB73 : Below W8.heap.size W8 w73 := (HB71.out.alloc hz71 _).trans hb73
        rw [← bvs_append] at hown73
        have hno := okD_more HK.out.1 1
        obtain ⟨_, _, e73, hc73, hm73⟩ := own_form hown73
        cases e73
        have hbV := bNext HB8.out hB73
        have hD := dec_any w73 (Sl.of_own hown73) hc73 hm73 (by omega) (HT.out.below (bNext HV.out.1 hbV))
        have HD := Lib.hid hD
        have HNO := Lib.hid hno
        have HB73 := Lib.hid hbV
        clear ho71 hx72 hs71 hown73 hg73 hb73 hat73 hB73 hD hno hbV hc73 hm73
        (try simp only [Act.put, List.setIfInBounds_toArray, List.set_cons_zero, List.set_cons_succ])
        go_wp2_with fail
        refine Calls.mono HD.out ?_
        rintro e w9 ⟨num9, A9, n9, c9, l9, er9, rfl, b9, -, -, -, -, hdd⟩
        rcases hdd with ⟨-, hyes, -⟩ | ⟨rfl, -, rfl, rfl, rfl, rfl, -⟩
        case inl => exact absurd hyes HNO.out
        have hb9 := bNext HB73.out b9
        have hz9 := hb9.size
        have HB9 := Lib.hid hb9
        clear hb9 b9 HD
        go_wp2_with fail
        go_meet
        exact HB9.out.alloc hz9 _
      case rest =>
        rename World => wx
        have hbV := hcut
        have hbW := bNext HV.out.1 hbV
        have hsx := HB0.out.2.2.below hbW
        have hD := dec_any wx (HB0.out.2.2.next hbW) hbc HB0.out.2.1 (by omega) (HT.out.below hbW)
        have HD := Lib.hid hD
        have HBX := Lib.hid hbW
        clear hcut hbV hbW hsx hD j0 j1
        go_wp2_with fail
        refine Calls.mono HD.out ?_
        rintro e w3 ⟨num3, A3, n3, c3, l3, er3, rfl, b3, hr3, hc3, hnn1, hnn2, hdd⟩
        have hb3 := bNext HBX.out b3
        obtain ⟨W4, hW4⟩ : ∃ q, w3.alloc (.cells #[.int .i64 num3, .slice A3 n3 c3] 24) = q := ⟨_, rfl⟩
        have hz3 := hb3.size
        have b4 : Below W.heap.size W W4 := by rw [← hW4]; exact hb3.alloc hz3 _
        have b34 : Below w3.heap.size w3 W4 := by rw [← hW4]; exact (Below.refl _ _).alloc (Nat.le_refl _) _
        have r4 : W4.heap[w3.heap.size]? = some (.cells #[.int .i64 num3, .slice A3 n3 c3] 24) := by rw [← hW4]; exact heap_alloc_new _ _
        have hr4 := hr3.nxt b34
        obtain ⟨g4, hg4⟩ : ∃ q, w3.heap.size = q := ⟨_, rfl⟩
        rw [hg4] at r4
        have hg4W : g4 < W4.heap.size := (Array.getElem?_eq_some_iff.1 r4).1
        have HW4 := Lib.hid (And.intro hW4 hg4)
        have HB4 := Lib.hid (And.intro b4 (And.intro r4 hr4))
        have q2 : W4.cell? ⟨g4, 0, none⟩ = some (.int .i64 num3) := blk_cell r4 rfl
        have q3 : W4.cell? ⟨g4, 1, none⟩ = some (.slice A3 n3 c3) := blk_cell r4 rfl
        clear hW4 hg4 b4 b34 r4 hr4 hr3 b3 hb3 HD hz3
        go_upto_region 13 with (fail)
        rw [HW4.out.1, HW4.out.2]
        clear HW4
        rcases hdd with ⟨rfl, hok, hnum3, hsm⟩ | ⟨rfl, -, rfl, rfl, rfl, rfl, -⟩
        case inr =>
          go_wp2_with fail
          refine Calls.mono (wakes_any _ (HT.out.below HB4.out.1)) ?_
          rintro e w5 ⟨rfl, b5⟩
          have HB5 := Lib.hid (bNext HB4.out.1 b5)
          clear b5
          go_wp2_with fail
          go_ret
          exact ⟨rfl, HB5.out⟩
        have hgd : GoodP num3 l3 := by rw [hnum3]; exact hok.1.same hsm.symm
        have hxe : encB num3 l3 = bb := by rw [hnum3, encB_same hsm]; exact hok.2.2
        have hE := enc_yes (by omega) W4 HB4.out.2.2 hc3 (HT.out.below HB4.out.1) hgd
        rw [hxe] at hE
        have HE := Lib.hid hE
        have HG3 := Lib.hid hgd
        clear hE hgd hxe hok hnum3 hsm
        go_wp2_with fail
        refine Calls.mono HE.out ?_
        rintro e w6 ⟨A6, n6, c6, rfl, -, -, -, -, hsl6, b6⟩
        have hW6 := bNext HB4.out.1 b6
        have hby := bytes_eqT (c := c6) (c' := cb) w6 hsl6 (HB0.out.2.2.next hW6)
        have r6 := bBlk b6 hg4W HB4.out.2.1
        have q0 : w6.cell? ⟨g4, 0, none⟩ = some (.int .i64 num3) := blk_cell r6 rfl
        have q1 : w6.cell? ⟨g4, 1, none⟩ = some (.slice A3 n3 c3) := blk_cell r6 rfl
        have hGd := good_yes (by omega) w6 (HB4.out.2.2.nxt b6) hc3 (HT.out.below hW6) HG3.out
        have HBY := Lib.hid hby
        have HGD := Lib.hid hGd
        have HW6 := Lib.hid hW6
        clear hsl6 b6 hW6 hby r6 hGd q2 q3 HE
        go_wp2_with fail
        refine Calls.mono HBY.out ?_
        rintro e w7 ⟨rfl, rfl⟩
        go_wp2_with fail
        refine Calls.mono HGD.out ?_
        rintro e w8 ⟨rfl, b8⟩
        have HB8 := Lib.hid (bNext HW6.out b8)
        clear b8
        go_wp2_with fail
        refine Calls.mono (wakes_any _ (HT.out.below HB8.out)) ?_
        rintro e w9 ⟨rfl, b9⟩
        have HB9 := Lib.hid (bNext HB8.out b9)
        clear b9
        go_wp2_with fail
        go_ret
        exact ⟨rfl, HB9.out⟩
end Go.Proofs.YtiffcdeagckgmaaDoor
