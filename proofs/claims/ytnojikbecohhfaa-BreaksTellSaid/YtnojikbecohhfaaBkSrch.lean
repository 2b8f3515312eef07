/- The walk over a paragraph's search (s10/bksrch.py writes it). -/
import Derived.Test.YtnojikbecohhfaaBkWith
namespace Go.Proofs.Ytnojikbecohhfaa
set_option linter.unusedSimpArgs false
set_option linter.unusedVariables false
open Go.RowKit Go.Sort

theorem own_first (w : World) (a : Int) : (w.alloc (.cells #[.int .i64 a] 3)).ownsRow w.heap.size 3 1 (.slice (some ⟨w.heap.size, 0, none⟩) 1 1) 1 (ivs [a]) :=
  ⟨rfl, .inr ⟨w.heap.size, 1, #[.int .i64 a], rfl, Nat.le_refl _, heap_alloc_new _ _, Nat.le_refl _, by simp [maxLen], rfl, rfl⟩⟩
theorem ints_ivs (l : List Nat) : ints l = ivs (l.map (fun n : Nat => (n : Int))) := by unfold ints ivs; rw [List.map_map]; rfl
theorem IvN.own {Z U : World} {F m c : Nat} {A : Option Addr} {l : List Int} (hl : l.length = m) (hown : U.ownsRow Z.heap.size 3 1 (.slice A m c) m (ivs l)) (hF : F < Z.heap.size) (hw : ∀ z ∈ l, -9223372036854775808 ≤ z ∧ z ≤ 9223372036854775807) : IvN U F A m c l := by
  have hge := own_ge hown
  obtain ⟨_, _, e, hcap, -⟩ := own_form hown
  cases e
  exact ⟨⟨hw, hl, Sl.of_own hown, hcap⟩, fun b o i e => by have := hge b (by rw [e]; rfl); omega⟩
theorem ext_none {fl : List (Option WY)} {j : Nat} : (fl ++ [none])[j]?.join = fl[j]?.join := by
  rcases Nat.lt_or_ge j fl.length with h | h
  · rw [List.getElem?_append_left h]
  · rw [List.getElem?_append_right h, List.getElem?_eq_none h]
    cases j - fl.length with
    | zero => rfl
    | succ m => simp
theorem fst_join {fl : List (Option WY)} {c : Option WY} {i : Nat} (h : i < fl.length) : (fl ++ [c])[i]?.join = fl[i]?.join := by rw [List.getElem?_append_left h]
def SrchP (w : World) (o : Option WY) (e : Ending) (w' : World) : Prop := ∃ A m c, e = .returned (.agg #[.slice A m c, .int .i64 (o.getD wy0).total, .int .i64 (o.getD wy0).over, .bool o.isSome]) ∧ IvAt w' w'.heap.size A m c (o.getD wy0).ends ∧ (∀ b o i, A = some ⟨b, o, i⟩ → w.heap.size ≤ b) ∧ Below w.heap.size w w'
theorem plc_ent {l : List It} {i : Nat} (h : i < (plc l).length) : (ivs (plc l))[i]? = some (.int .i64 (plcAt l i)) := by
  unfold ivs plcAt
  rw [List.getElem?_map, List.getElem?_eq_getElem h]
  rfl
theorem own_setRow {U : World} {base g n c : Nat} {A : Option Addr} {xs : List Value} (hown : U.ownsRow base 3 1 (.slice A n c) n xs) (hg : g < base) (cs : Array Value) : (U.setRow g cs).ownsRow base 3 1 (.slice A n c) n xs := by
  refine ⟨hown.1, ?_⟩
  rcases hown.2 with e | ⟨b, cap, cur, e, h2, h3, h4⟩
  · exact .inl e
  · exact .inr ⟨b, cap, cur, e, h2, (setRow_other _ _ _ _ (by omega)).trans h3, h4⟩
theorem bzZ : ZeroIs Try.prog 67 bz.toArray := by unfold ZeroIs; kernel_rfl
theorem best_size : (Try.prog.info? 67).map (·.size) = some 4 := by kernel_rfl
theorem pgi_size : (Try.prog.info? 59).map (·.size) = some 3 := by kernel_rfl
attribute [-go_sem] Builtin.append_
set_option maxHeartbeats 16000000 in
set_option maxRecDepth 100000 in
theorem search_any {A : Option Addr} {n c : Nat} {l : List It} {wd tl : Int} (all : Bool) (hn : n ≤ 600) (hwd : 0 ≤ wd ∧ wd ≤ 10000) (w : World) (h : Sl w w.heap.size 6 A n (encs l)) :
    Calls Try.prog 30 #[pgv A n c wd tl, .bool all] w (SrchP w (srch l wd tl all)) := by
  have hl := its_len h
  obtain ⟨K, hK⟩ : ∃ K, (brks l).length = K := ⟨_, rfl⟩
  have hK0 : K ≤ 601 := by have h1 := brks_len l; have h2 := brksTo_len l l.length; omega
  have hsec : srch l wd tl all = (fnd l wd tl all K)[K]?.join := by unfold srch; rw [hK]
  rw [hsec]
  obtain ⟨Wo, hWo0⟩ : ∃ q, (fnd l wd tl all K)[K]?.join = q := ⟨_, rfl⟩
  rw [hWo0]
  have HWR := Lib.hid hWo0
  clear hWo0 hsec
  obtain ⟨V, hV, y2, hb⟩ := pgbox w A n c wd tl
  obtain ⟨b2, hb2⟩ : ∃ b, w.heap.size = b := ⟨_, rfl⟩
  rw [hb2] at y2
  have l2 := (Array.getElem?_eq_some_iff.1 y2).1
  obtain ⟨zw, hzw⟩ : ∃ q, bz.toArray = q := ⟨_, rfl⟩
  have hwz := bzZ
  rw [hzw] at hwz
  have hz4 : zw.size = 4 := by rw [← hzw]; rfl
  obtain ⟨W, hW⟩ : ∃ q, V.alloc (.cells zw 67) = q := ⟨_, rfl⟩
  obtain ⟨b4, hb4⟩ : ∃ b, V.heap.size = b := ⟨_, rfl⟩
  have x4 : W.heap[b4]? = some (.cells zw 67) := by rw [← hW, ← hb4]; exact heap_alloc_new _ _
  have hbW : Below V.heap.size V W := by rw [← hW]; exact (Below.refl _ _).alloc (Nat.le_refl _) _
  have hBW := bNext hb hbW
  have x2 := bBlk hbW l2 y2
  have c0 : W.cell? ⟨b2, 0, none⟩ = some (.slice A n c) := blk_cell x2 rfl
  have hB1 : Below W.heap.size W (W.alloc (.cells #[.int .i64 (-1)] 3)) := (Below.refl _ _).alloc (Nat.le_refl _) _
  have hbr := breaks_any (c := c) (by omega) ((h.next hBW).next hB1)
  have hown1 := own_first W (-1)
  have l4 := (Array.getElem?_eq_some_iff.1 x4).1
  have l2W := (Array.getElem?_eq_some_iff.1 x2).1
  have szV := hb.size
  have c0' := (hB1.cell (p := ⟨b2, 0, none⟩) l2W).trans c0
  have HS0 := Lib.hid (And.intro h (And.intro hBW (And.intro x2 (And.intro x4 hB1))))
  unfold pgv
  clear h hb y2 hbW hBW x2 x4 hB1 l2
  go_enter Try.func30, Try.ntmps30
  go_upto_region 1 with (first | (refine wpList_new rfl hwz rfl ?_) | fail)
  try rw [hV]
  try rw [hb2]
  try rw [hW]
  try rw [hb4]
  clear hV hW
  go_wp2_with fail
  refine Calls.mono hbr ?_
  rintro e U ⟨A14, c14, rfl, hown2, hbU⟩
  clear hbr
  have hown1U := own_below hown1 hbU
  have hsU : Sl U U.heap.size 1 A14 (brks l).length (ivs ((brks l).map (fun n : Nat => (n : Int)))) := by rw [← ints_ivs]; exact Sl.of_own hown2
  have hone := one_ivs ((brks l).map (fun n : Nat => (n : Int)))
  have hszU : W.heap.size ≤ U.heap.size := by have := hbU.size; rw [World.size_alloc] at this; omega
  have c0U := (hbU.cell (p := ⟨b2, 0, none⟩) (by rw [World.size_alloc]; show b2 < _; omega)).trans c0'
  rw [hK] at hsU hown2
  have HU := Lib.hid (And.intro hown1 (And.intro hown2 hbU))
  obtain ⟨MR, hMR⟩ : ∃ q, (brks l).map (fun n : Nat => (n : Int)) = q := ⟨_, rfl⟩
  rw [hMR] at hsU hone
  have HMR := Lib.hid hMR
  rw [hK]
  clear hown1 hown2 hbU hMR c0 c0'
  go_upto_region 2 with (first
    | (at_builtin; refine wpList_app _ rfl (.tmp 11) (.tmp 14) 25 rfl (base := W.heap.size) Try.underlying25 elemI rfl hown1U rfl hsU hone (by simp only [maxLen]; omega) (by omega) hszU ?_; intro A5 c5 Y hownY hgY hbY hatY)
    | fail)
  obtain ⟨N, hN⟩ : ∃ N, 1 + K = N := ⟨_, rfl⟩
  rw [hN] at hownY ⊢
  have hplc : ivs [-1] ++ ivs MR = ivs (plc l) := by rw [← ivs_append, ← HMR.out]; rfl
  rw [hplc] at hownY
  have hpl : plc l = plc l := rfl
  have hplN : (plc l).length = N := by rw [plc_len, hK]; omega
  have hslY := Sl.of_own hownY
  obtain ⟨bP, oP, eP, lP, hcP⟩ := hslY.at_ (by omega)
  subst eP
  have hBY : Below W.heap.size W Y := by
    have h1 := HS0.out.2.2.2.2
    exact ((h1.trans (HU.out.2.2.mono h1.size))).trans hbY
  obtain ⟨h, hBW, x2, x4, -⟩ := HS0.out
  have y2 := bBlk hBY l2W x2
  have y4 := bBlk hBY l4 x4
  have hY := h.next (bNext hBW hBY)
  have hBwY := bNext hBW hBY
  have ly2 := (Array.getElem?_eq_some_iff.1 y2).1
  have ly4 := (Array.getElem?_eq_some_iff.1 y4).1
  have hmk1 := make_tab N (by omega) (by omega) Y
  obtain ⟨cs0, hcs0⟩ : ∃ q, madeCells bz.toArray (N * 4) = q := ⟨_, rfl⟩
  have hsz0 : cs0.size = N * 4 := by rw [← hcs0]; exact made_size _
  have h03 : cs0[3]? = some (.bool false) := by rw [← hcs0, made_at (by omega)]; rfl
  rw [hcs0] at hmk1
  obtain ⟨Z, hZ⟩ : ∃ q, Y.alloc (.cells cs0 67) = q := ⟨_, rfl⟩
  have yF : Z.heap[Y.heap.size]? = some (.cells cs0 67) := by rw [← hZ]; exact heap_alloc_new _ _
  have hbZ : Below Y.heap.size Y Z := by rw [← hZ]; exact (Below.refl _ _).alloc (Nat.le_refl _) _
  rw [hZ] at hmk1
  clear hZ
  have hN0 : 0 < N := by omega
  have hN0' : (0 : Int) < (N : Int) := by omega
  have hN4 : 3 < N * 4 := by omega
  obtain ⟨F, hF⟩ : ∃ F, Y.heap.size = F := ⟨_, rfl⟩
  rw [hF] at hmk1 yF lP ly2 ly4
  have k3 : Z.cell? ⟨F, 3, none⟩ = some (.bool false) := blk_cell yF h03
  have f3 := blk_frozen yF 3
  have hY6 : Sl Y F 6 A n (encs l) := by rw [← hF]; exact hY
  rw [hF] at hbZ
  have z2 := bBlk hbZ ly2 y2
  have z4 := bBlk hbZ ly4 y4
  have hZl := hY6.below hbZ
  have hBwZ := hBwY.trans (hbZ.mono (by rw [← hF]; exact hBwY.size))
  have zP : ∀ j v, (ivs (plc l))[j]? = some v → Z.cell? ⟨bP, oP + j, none⟩ = some v := fun j v hj => (hbZ.cell (p := ⟨bP, oP + j, none⟩) lP).trans (hcP j v hj)
  have hwF : w.heap.size ≤ F := by rw [← hF]; exact hBwY.size
  have lZF := (Array.getElem?_eq_some_iff.1 yF).1
  have HZ := Lib.hid (And.intro yF (And.intro hcs0 (And.intro z2 (And.intro z4 (And.intro hZl (And.intro hBwZ (And.intro zP hplN)))))))
  clear hplc hpl hplN hslY hcP hBY h hBW x2 x4 y2 y4 hY hBwY hbZ z2 z4 hZl hBwZ zP yF hcs0 hF hY6 HS0 HU hownY hgY hbY hatY hown1U hsU hone hsz0 h03 c0U HMR
  go_upto_region 3 with (fail)
  go_upto_region 4 with (fail)
  obtain ⟨X, hX⟩ : ∃ q, Z.setCell ⟨F, 3, none⟩ (.bool true) = q := ⟨_, rfl⟩
  obtain ⟨yF, hcs0, z2, z4, hZl, hBwZ, zP, hplN⟩ := HZ.out
  have hrep : FRep X F N (fnd l wd tl all 0) (cs0.setIfInBounds 3 (.bool true)) := by
    refine tab_new (by omega) ?_ (by rw [hcs0])
    rw [← hX]
    exact blk_set yF 3 _
  have hBF : Below F Z X := by rw [← hX]; exact (Below.refl _ _).setCell (p := ⟨F, 3, none⟩) (Nat.le_refl _) _
  have hBX := hBwZ.trans (hBF.mono hwF)
  have x2 := bBlk hBF ly2 z2
  have x4 := bBlk hBF ly4 z4
  have hXl := hZl.below hBF
  have xP : ∀ j v, (ivs (plc l))[j]? = some v → X.cell? ⟨bP, oP + j, none⟩ = some v := fun j v hj => (hBF.cell (p := ⟨bP, oP + j, none⟩) lP).trans (zP j v hj)
  have lXF : F < X.heap.size := Nat.lt_of_lt_of_le lZF hBF.size
  rw [hX]
  have HX := Lib.hid (And.intro hrep (And.intro hBX (And.intro x2 (And.intro x4 (And.intro hXl (And.intro xP hplN))))))
  clear hX yF hcs0 z2 z4 hZl hBwZ zP hplN HZ hrep hBF hBX x2 x4 hXl xP k3 f3 hmk1 lZF
  go_wp2_with fail
  go_loopw [7] (fun s7 wr => ∃ k : Nat, 1 ≤ k ∧ k ≤ N ∧ s7 = .int .i64 k ∧ Below F X wr ∧ ∃ cs, FRep wr F N (fnd l wd tl all (k - 1)) cs) (fun i _ => N - (intOf i).toNat)
  case atStart => exact ⟨1, by omega, by omega, rfl, Below.refl _ _, _, HX.out.1⟩
  case round =>
    obtain ⟨k, hk1, hkN, rfl, hbr, cs, hrep⟩ := hrel
    by_cases hlt : k < N
    · have hi1 : (k : Int) < (N : Int) := by omega
      have hfl : (fnd l wd tl all (k - 1)).length = k := by rw [fnd_len]; omega
      have hfk : fnd l wd tl all k = fnd l wd tl all (k - 1) ++ [bestTo l wd tl all (fnd l wd tl all (k - 1)) k k] := by
        obtain ⟨k', hk'⟩ : ∃ k', k = k' + 1 := ⟨k - 1, by omega⟩
        subst hk'
        rw [fnd, Nat.add_sub_cancel]
      have hok := fun i x => fnd_ok (l := l) (wd := wd) (tl := tl) (all := all) (k - 1) i x (by have := HX.out.2.2.2.2.2.2; omega)
      obtain ⟨fl, hflq⟩ : ∃ q, fnd l wd tl all (k - 1) = q := ⟨_, rfl⟩
      simp only [hflq] at hfl hfk hok hrep
      have hrep0 : FRep wr F N (fl ++ [bestTo l wd tl all fl k 0]) cs := hrep.list (fun j hj => ext_none)
      have HK := Lib.hid (And.intro hfl (And.intro hfk hok))
      have HS := Lib.hid (And.intro hrep0 hbr)
      clear hfl hfk hok hrep hrep0 hflq hbr
      go_wp2_with fail
      go_loopw [29] (fun s29 wr => ∃ i : Nat, i ≤ k ∧ s29 = .int .i64 i ∧ Below F X wr ∧ ∃ cs, FRep wr F N (fl ++ [bestTo l wd tl all fl k i]) cs) (fun i _ => k - (intOf i).toNat)
      case atStart => exact ⟨0, by omega, rfl, HS.out.2, cs, HS.out.1⟩
      case round =>
        clear HS
        obtain ⟨i, hik, rfl, hbr, cs2, hrep⟩ := hrel
        by_cases hilt : i < k
        · have hii : (i : Int) < (k : Int) := by omega
          have hcel := hrep.cel i (by omega)
          rw [fst_join (by rw [HK.out.1]; exact hilt)] at hcel
          have hstep : bestTo l wd tl all fl k (i + 1) = offo (bestTo l wd tl all fl k i) (byWay l wd tl all fl k i) := rfl
          have hin : i < N := by omega
          have hin' : (i : Int) < (N : Int) := by omega
          have hFz := (Array.getElem?_eq_some_iff.1 hrep.blk).1
          cases hfi : fl[i]?.join with
          | none =>
            rw [hfi] at hcel
            have kany : wr.cell? ⟨F, i * 4 + 3, none⟩ = some (.bool false) := blk_cell hrep.blk hcel.2.2.2
            have hst : bestTo l wd tl all fl k (i + 1) = bestTo l wd tl all fl k i := by
              rw [hstep]
              unfold byWay
              rw [hfi]
              simp [offo]
            have HZ := Lib.hid (And.intro hrep (And.intro hbr hst))
            clear hrep hbr hst hcel hfi hstep
            go_upto_region 10 with (fail)
            let S : World → Prop := fun w' => Below wr.heap.size wr w'
            have hS0 : S wr.drew := (Below.refl _ _).drew
            have q0 : ∀ w', S w' → w'.cell? ⟨F, i * 4 + 3, none⟩ = some (.bool false) := fun w' h => (Below.cell (show Below wr.heap.size wr w' from h) (p := ⟨F, i * 4 + 3, none⟩) hFz).trans kany
            clear kany
            refine wp_region_held (S := S) (by kernel_rfl) ?_
            change wpAnyH _ _ _ _ S _ _ _ wr.drew
            change At 0 _
            iterate 19 (first | (apply tkA; (case hi => (simp only [List.getElem?_toArray, List.getElem?_cons_zero, List.getElem?_cons_succ]; rfl)); (case hw => rfl); (case hy => (intro w' hSw; have h1 := q0 w' hSw; (try simp only [S] at hSw); go_simp; (try with_reducible rfl))); (case hs => kernel_rfl); (case hf => kernel_rfl); (case hr => kernel_rfl); (case hQ => exact fun _ _ _ h => h); (case hS => assumption); (try simp only [Act.put, List.setIfInBounds_toArray, List.set_cons_zero, List.set_cons_succ, Nat.reduceAdd])) | (apply skA; (case hi => (simp only [List.getElem?_toArray, List.getElem?_cons_zero, List.getElem?_cons_succ]; rfl)); (case hw => rfl); (case hs => kernel_rfl); (case hf => kernel_rfl); (case hr => kernel_rfl); (case hQ => exact fun _ _ _ h => h); (case hS => assumption); (try simp only [Act.put, List.setIfInBounds_toArray, List.set_cons_zero, List.set_cons_succ, Nat.reduceAdd])))
            change wpAnyH _ _ _ _ _ _ _ _ _
            refine wpAnyH_done (by kernel_rfl) ?_ _
            clear q0
            go_wp2_with fail
            go_roundw
            case rel => exact ⟨i + 1, by omega, by go_num, HZ.out.2.1.trans ((show Below wr.heap.size wr wr.drew from hS0).mono (by omega)), cs2, by rw [HZ.out.2.2]; exact HZ.out.1.nxt hS0⟩
            case measure => simp [intOf]; omega
          | some x =>
            rw [hfi] at hcel
            obtain ⟨A0, m0, c0, h0, h1, h2, h3', hiv⟩ := hcel
            have hoki := HK.out.2.2 i x hfi
            obtain ⟨ox1, ox2, ox3, ox4⟩ := hoki
            have hm0 : m0 ≤ 601 := by have := hiv.iv.len; omega
            have kany : wr.cell? ⟨F, i * 4 + 3, none⟩ = some (.bool true) := blk_cell hrep.blk h3'
            have hpi := HX.out.2.2.2.2.2.1 i _ (plc_ent (by have := HX.out.2.2.2.2.2.2; omega))
            have hpk := HX.out.2.2.2.2.2.1 k _ (plc_ent (by have := HX.out.2.2.2.2.2.2; omega))
            have ci := (hbr.cell (p := ⟨bP, oP + i, none⟩) lP).trans hpi
            have ck := (hbr.cell (p := ⟨bP, oP + k, none⟩) lP).trans hpk
            have rPk := plc_rng (l := l) (k := k) (by have := HX.out.2.2.2.2.2.2; omega)
            have hbw : byWay l wd tl all fl k i = if bx l (plcAt l i) (plcAt l k) then (if (lineD l wd tl (plcAt l i) (plcAt l k)).may || all then some (withW l wd tl x (plcAt l i) (plcAt l k)) else none) else none := by
              unfold byWay
              rw [hfi]
              rfl
            have hwok := withW_ok (wd := wd) (tl := tl) (f := plcAt l i) ⟨ox1, ox2, ox3, ox4⟩ rPk
            obtain ⟨PI, hPI⟩ : ∃ q, plcAt l i = q := ⟨_, rfl⟩
            obtain ⟨PK, hPK⟩ : ∃ q, plcAt l k = q := ⟨_, rfl⟩
            rw [hPI] at ci hbw hwok
            rw [hPK] at ck hbw rPk hwok
            have hx2 := bBlk hbr ly2 HX.out.2.2.1
            have hxl : Sl wr wr.heap.size 6 A n (encs l) := (HX.out.2.2.2.2.1.below hbr).mono (by omega)
            have hboxed := fun U (hb : Below wr.heap.size wr U) => boxed_any (c := c) (wd := wd) (tl := tl) PI PK (by omega) U (hxl.next hb)
            have hwith := fun U (hb : Below wr.heap.size wr U) => with_any (c := c) (wd := wd) (tl := tl) (y := x) PI PK (by omega) hwd U (hxl.next hb) (hiv.iv.nxt hb) (by omega) (by omega) (by omega)
            obtain ⟨BX, hBX⟩ : ∃ q, bx l PI PK = q := ⟨_, rfl⟩
            obtain ⟨MY, hMY⟩ : ∃ q, (lineD l wd tl PI PK).may = q := ⟨_, rfl⟩
            obtain ⟨WW, hWW⟩ : ∃ q, withW l wd tl x PI PK = q := ⟨_, rfl⟩
            simp only [hBX, hMY, hWW] at hbw hboxed hwith hwok
            rw [hbw] at hstep
            have rB2 : wr.rangeAt b2 0 [.slice A n c, .int .i64 wd, .int .i64 tl] := range_blk hx2
            have rW : wr.rangeAt F (i * 4) [.slice A0 m0 c0, .int .i64 x.total, .int .i64 x.over] := fun j v hj => by
                match j, hj with
                | 0, hj => injection hj with hj; subst hj; exact blk_cell hrep.blk h0
                | 1, hj => injection hj with hj; subst hj; exact blk_cell hrep.blk h1
                | 2, hj => injection hj with hj; subst hj; exact blk_cell hrep.blk h2
            have lPr : bP < wr.heap.size := by omega
            have l2r : b2 < wr.heap.size := by omega
            have hwlen : WW.ends.length ≤ 1000 := by have := hwok.2.2.1; omega
            have hwide : ∀ z ∈ WW.ends, -9223372036854775808 ≤ z ∧ z ≤ 9223372036854775807 := fun z hz => by have := hwok.2.2.2 z hz; omega
            have hbo : ∀ y, bestTo l wd tl all fl k i = some y → y.ends.length ≤ 1000000 := fun y hy => by
              have h9 : k < (plc l).length := by have := HX.out.2.2.2.2.2.2; omega
              have := bestTo_ok h9 HK.out.2.2 (wd := wd) (tl := tl) (all := all) i (by omega) y hy
              have := this.2.2.1
              omega
            have HI := Lib.hid (And.intro hrep (And.intro hbr (And.intro hstep (And.intro hwide hbo))))
            clear hrep hbr hstep hwide hbo hiv h0 h1 h2 h3' hpi hpk hbw hwok hBX hMY hWW hPI hPK hx2 hxl hfi ox1 ox2 ox3 ox4 rPk
            have pgs := pgi_size
            have wys := wy_size
            unfold pgv at hboxed hwith
            unfold wyv at hwith
            go_upto_region 10 with (fail)
            let S : World → Prop := fun w' => Below wr.heap.size wr w'
            have hS0 : S wr.drew := (Below.refl _ _).drew
            have q0 : ∀ w', S w' → w'.cell? ⟨F, i * 4 + 3, none⟩ = some (.bool true) := fun w' h => (Below.cell (show Below wr.heap.size wr w' from h) (p := ⟨F, i * 4 + 3, none⟩) hFz).trans kany
            have qi : ∀ w', S w' → w'.cell? ⟨bP, oP + i, none⟩ = some (.int .i64 PI) := fun w' h => (Below.cell (show Below wr.heap.size wr w' from h) (p := ⟨bP, oP + i, none⟩) lPr).trans ci
            have qk : ∀ w', S w' → w'.cell? ⟨bP, oP + k, none⟩ = some (.int .i64 PK) := fun w' h => (Below.cell (show Below wr.heap.size wr w' from h) (p := ⟨bP, oP + k, none⟩) lPr).trans ck
            have qB : ∀ w', S w' → w'.rangeAt b2 0 [.slice A n c, .int .i64 wd, .int .i64 tl] := fun w' h => But.range (X := fun _ => False) (but_of (show Below wr.heap.size wr w' from h)) l2r (fun h => h) rB2
            clear kany
            refine wp_region_held (S := S) (by kernel_rfl) ?_
            change wpAnyH _ _ _ _ S _ _ _ wr.drew
            change At 0 _
            iterate 7 (first | (apply tkA; (case hi => (simp only [List.getElem?_toArray, List.getElem?_cons_zero, List.getElem?_cons_succ]; rfl)); (case hw => rfl); (case hy => (intro w' hSw; have h1 := q0 w' hSw; (try simp only [S] at hSw); go_simp; (try with_reducible rfl))); (case hs => kernel_rfl); (case hf => kernel_rfl); (case hr => kernel_rfl); (case hQ => exact fun _ _ _ h => h); (case hS => assumption); (try simp only [Act.put, List.setIfInBounds_toArray, List.set_cons_zero, List.set_cons_succ, Nat.reduceAdd])) | (apply skA; (case hi => (simp only [List.getElem?_toArray, List.getElem?_cons_zero, List.getElem?_cons_succ]; rfl)); (case hw => rfl); (case hs => kernel_rfl); (case hf => kernel_rfl); (case hr => kernel_rfl); (case hQ => exact fun _ _ _ h => h); (case hS => assumption); (try simp only [Act.put, List.setIfInBounds_toArray, List.set_cons_zero, List.set_cons_succ, Nat.reduceAdd])))
            change wpAnyH _ _ _ _ _ _ _ _ _
            refine wpAnyH_take (i := 7) (oi := ?oi_112) (v := ?v_112) ?ho_112 ?h1_112 ?h2_112 ?h3_112 ?hq_112 (Or.inl ⟨?hw_112, ?hy_112⟩) ?hs_112 ?rest_112; (case h2_112 => kernel_rfl); (case h3_112 => kernel_rfl); (case ho_112 => (simp only [List.getElem?_toArray, List.getElem?_cons_zero, List.getElem?_cons_succ]; rfl)); (case h1_112 => kernel_rfl); (case hq_112 => exact fun _ _ _ h => h); (case hw_112 => rfl); (case hy_112 => (intro w' hSw; refine exec_load_row (x := .tmp 2) ?_ ?_ (qB w' hSw) Try.underlying59 ?_ pgs <;> rfl)); (case hs_112 => assumption); (try simp only [Act.put, List.setIfInBounds_toArray, List.set_cons_zero, List.set_cons_succ])
            change At 8 _
            iterate 8 (first | (apply tkA; (case hi => (simp only [List.getElem?_toArray, List.getElem?_cons_zero, List.getElem?_cons_succ]; rfl)); (case hw => rfl); (case hy => (intro w' hSw; have h1 := qi w' hSw; have h2 := qk w' hSw; (try simp only [S] at hSw); go_simp; (try with_reducible rfl))); (case hs => kernel_rfl); (case hf => kernel_rfl); (case hr => kernel_rfl); (case hQ => exact fun _ _ _ h => h); (case hS => assumption); (try simp only [Act.put, List.setIfInBounds_toArray, List.set_cons_zero, List.set_cons_succ, Nat.reduceAdd])) | (apply skA; (case hi => (simp only [List.getElem?_toArray, List.getElem?_cons_zero, List.getElem?_cons_succ]; rfl)); (case hw => rfl); (case hs => kernel_rfl); (case hf => kernel_rfl); (case hr => kernel_rfl); (case hQ => exact fun _ _ _ h => h); (case hS => assumption); (try simp only [Act.put, List.setIfInBounds_toArray, List.set_cons_zero, List.set_cons_succ, Nat.reduceAdd])))
            change wpAnyH _ _ _ _ _ _ _ _ _
            refine wpAnyH_ready (rs := [16]) (by kernel_rfl) (by simp) (AllReadyH.cons (o := ?oo16_118) ?hoo16_118 (fun K hK => ?steponly118) AllReadyH.nil); (case hoo16_118 => (simp only [List.getElem?_toArray, List.getElem?_cons_zero, List.getElem?_cons_succ]; rfl))
            go_simp
            refine Calls.mono (hboxed _ hS0) ?_
            rintro e U1 ⟨rfl, hb1⟩
            have hS1 : S U1 := (show Below wr.heap.size wr wr.drew from hS0).trans hb1
            refine hK.out _ _ hS1 (fun _ => ?_)
            clear hK K
            (try simp only [Act.put, List.setIfInBounds_toArray, List.set_cons_zero, List.set_cons_succ])
            change At 17 _
            iterate 2 (first | (apply tkA; (case hi => (simp only [List.getElem?_toArray, List.getElem?_cons_zero, List.getElem?_cons_succ]; rfl)); (case hw => rfl); (case hy => (intro w' hSw; (try simp only [S] at hSw); go_simp; (try with_reducible rfl))); (case hs => kernel_rfl); (case hf => kernel_rfl); (case hr => kernel_rfl); (case hQ => exact fun _ _ _ h => h); (case hS => assumption); (try simp only [Act.put, List.setIfInBounds_toArray, List.set_cons_zero, List.set_cons_succ, Nat.reduceAdd])) | (apply skA; (case hi => (simp only [List.getElem?_toArray, List.getElem?_cons_zero, List.getElem?_cons_succ]; rfl)); (case hw => rfl); (case hs => kernel_rfl); (case hf => kernel_rfl); (case hr => kernel_rfl); (case hQ => exact fun _ _ _ h => h); (case hS => assumption); (try simp only [Act.put, List.setIfInBounds_toArray, List.set_cons_zero, List.set_cons_succ, Nat.reduceAdd])))
            change wpAnyH _ _ _ _ _ _ _ _ _
            refine wpAnyH_done (by kernel_rfl) ?_ _
            clear q0 qi qk qB hboxed hb1 hS0
            cases BX
            · have hst : bestTo l wd tl all fl k (i + 1) = bestTo l wd tl all fl k i := by rw [HI.out.2.2.1, if_neg Bool.false_ne_true]; rfl
              have HZ := Lib.hid (And.intro hst (show Below wr.heap.size wr U1 from hS1))
              clear hst hS1 hwith
              go_wp2_with fail
              go_roundw
              case rel => exact ⟨i + 1, by omega, by go_num, HI.out.2.1.trans (HZ.out.2.mono (by omega)), cs2, by rw [HZ.out.1]; exact HI.out.1.nxt HZ.out.2⟩
              case measure => simp [intOf]; omega
            · have hst : bestTo l wd tl all fl k (i + 1) = offo (bestTo l wd tl all fl k i) (if MY || all then some WW else none) := by rw [HI.out.2.2.1, if_pos rfl]
              have hb1 : Below wr.heap.size wr U1 := hS1
              have ci1 := (hb1.cell (p := ⟨bP, oP + i, none⟩) lPr).trans ci
              have ck1 := (hb1.cell (p := ⟨bP, oP + k, none⟩) lPr).trans ck
              have rB1 : U1.rangeAt b2 0 [.slice A n c, .int .i64 wd, .int .i64 tl] := But.range (X := fun _ => False) (but_of hb1) l2r (fun h => h) rB2
              have rW1 : U1.rangeAt F (i * 4) [.slice A0 m0 c0, .int .i64 x.total, .int .i64 x.over] := But.range (X := fun _ => False) (but_of hb1) hFz (fun h => h) rW
              have hs1 := hb1.size
              have hwith1 := fun U (hb : Below U1.heap.size U1 U) => hwith U (bNext hb1 hb)
              have HZ := Lib.hid (And.intro hst hb1)
              clear ci ck rB2 rW hwith hst hb1 hS1
              go_upto_region 11 with (fail)
              go_cut [9, 10] from 51 to 68 (fun s9 s10 wx => ∃ G A2 c2, s9 = .pointer (some ⟨G, 0, none⟩) ∧ s10 = .bool MY ∧ U1.heap.size ≤ G ∧ wx.heap[G]? = some (.cells #[.slice A2 WW.ends.length c2, .int .i64 WW.total, .int .i64 WW.over] 37) ∧ IvN wx F A2 WW.ends.length c2 WW.ends ∧ Below U1.heap.size U1 wx)
              case first =>
                let S : World → Prop := fun w' => Below U1.heap.size U1 w'
                have hS0 : S U1.drew := (Below.refl _ _).drew
                have qi : ∀ w', S w' → w'.cell? ⟨bP, oP + i, none⟩ = some (.int .i64 PI) := fun w' h => (Below.cell (show Below U1.heap.size U1 w' from h) (p := ⟨bP, oP + i, none⟩) (by show bP < _; omega)).trans ci1
                have qk : ∀ w', S w' → w'.cell? ⟨bP, oP + k, none⟩ = some (.int .i64 PK) := fun w' h => (Below.cell (show Below U1.heap.size U1 w' from h) (p := ⟨bP, oP + k, none⟩) (by show bP < _; omega)).trans ck1
                have qB : ∀ w', S w' → w'.rangeAt b2 0 [.slice A n c, .int .i64 wd, .int .i64 tl] := fun w' h => But.range (X := fun _ => False) (but_of (show Below U1.heap.size U1 w' from h)) (by omega) (fun h => h) rB1
                have qW : ∀ w', S w' → w'.rangeAt F (i * 4) [.slice A0 m0 c0, .int .i64 x.total, .int .i64 x.over] := fun w' h => But.range (X := fun _ => False) (but_of (show Below U1.heap.size U1 w' from h)) (by omega) (fun h => h) rW1
                have hyz := wyZ
                have wyii : ∀ A2 c2, (Try.prog.info? 37).map (·.size) = some (#[Value.slice A2 WW.ends.length c2, .int .i64 WW.total, .int .i64 WW.over] : Array Value).size := fun _ _ => wys
                clear ci1 ck1 rB1 rW1 HZ
                refine wp_region_held (S := S) (by kernel_rfl) ?_
                change wpAnyH _ _ _ _ S _ _ _ U1.drew
                refine wpAnyH_take (i := 0) (oi := ?oi_113) (v := ?v_113) ?ho_113 ?h1_113 ?h2_113 ?h3_113 ?hq_113 (Or.inl ⟨?hw_113, ?hy_113⟩) ?hs_113 ?rest_113; (case h2_113 => kernel_rfl); (case h3_113 => kernel_rfl); (case ho_113 => (simp only [List.getElem?_toArray, List.getElem?_cons_zero, List.getElem?_cons_succ]; rfl)); (case h1_113 => kernel_rfl); (case hq_113 => exact fun _ _ _ h => h); (case hw_113 => rfl); (case hy_113 => (intro w' hSw; refine exec_load_row (x := .tmp 2) ?_ ?_ (qB w' hSw) Try.underlying59 ?_ pgs <;> rfl)); (case hs_113 => assumption); (try simp only [Act.put, List.setIfInBounds_toArray, List.set_cons_zero, List.set_cons_succ])
                change At 1 _
                iterate 4 (first | (apply tkA; (case hi => (simp only [List.getElem?_toArray, List.getElem?_cons_zero, List.getElem?_cons_succ]; rfl)); (case hw => rfl); (case hy => (intro w' hSw; (try simp only [S] at hSw); go_simp; (try with_reducible rfl))); (case hs => kernel_rfl); (case hf => kernel_rfl); (case hr => kernel_rfl); (case hQ => exact fun _ _ _ h => h); (case hS => assumption); (try simp only [Act.put, List.setIfInBounds_toArray, List.set_cons_zero, List.set_cons_succ, Nat.reduceAdd])) | (apply skA; (case hi => (simp only [List.getElem?_toArray, List.getElem?_cons_zero, List.getElem?_cons_succ]; rfl)); (case hw => rfl); (case hs => kernel_rfl); (case hf => kernel_rfl); (case hr => kernel_rfl); (case hQ => exact fun _ _ _ h => h); (case hS => assumption); (try simp only [Act.put, List.setIfInBounds_toArray, List.set_cons_zero, List.set_cons_succ, Nat.reduceAdd])))
                change wpAnyH _ _ _ _ _ _ _ _ _
                refine wpAnyH_take (i := 5) (oi := ?oi_114) (v := ?v_114) ?ho_114 ?h1_114 ?h2_114 ?h3_114 ?hq_114 (Or.inl ⟨?hw_114, ?hy_114⟩) ?hs_114 ?rest_114; (case h2_114 => kernel_rfl); (case h3_114 => kernel_rfl); (case ho_114 => (simp only [List.getElem?_toArray, List.getElem?_cons_zero, List.getElem?_cons_succ]; rfl)); (case h1_114 => kernel_rfl); (case hq_114 => exact fun _ _ _ h => h); (case hw_114 => rfl); (case hy_114 => (intro w' hSw; refine exec_load_row (x := .tmp 56) ?_ ?_ (qW w' hSw) Try.underlying37 ?_ wys <;> rfl)); (case hs_114 => assumption); (try simp only [Act.put, List.setIfInBounds_toArray, List.set_cons_zero, List.set_cons_succ])
                change At 6 _
                iterate 8 (first | (apply tkA; (case hi => (simp only [List.getElem?_toArray, List.getElem?_cons_zero, List.getElem?_cons_succ]; rfl)); (case hw => rfl); (case hy => (intro w' hSw; have h1 := qi w' hSw; have h2 := qk w' hSw; (try simp only [S] at hSw); go_simp; (try with_reducible rfl))); (case hs => kernel_rfl); (case hf => kernel_rfl); (case hr => kernel_rfl); (case hQ => exact fun _ _ _ h => h); (case hS => assumption); (try simp only [Act.put, List.setIfInBounds_toArray, List.set_cons_zero, List.set_cons_succ, Nat.reduceAdd])) | (apply skA; (case hi => (simp only [List.getElem?_toArray, List.getElem?_cons_zero, List.getElem?_cons_succ]; rfl)); (case hw => rfl); (case hs => kernel_rfl); (case hf => kernel_rfl); (case hr => kernel_rfl); (case hQ => exact fun _ _ _ h => h); (case hS => assumption); (try simp only [Act.put, List.setIfInBounds_toArray, List.set_cons_zero, List.set_cons_succ, Nat.reduceAdd])))
                change wpAnyH _ _ _ _ _ _ _ _ _
                clear qi qk qB qW
                refine wpAnyH_ready (rs := [14, 18]) (by kernel_rfl) (by simp) (AllReadyH.cons (o := ?oo14_119) ?hoo14_119 (fun K hK => ?stepW14) (AllReadyH.cons (o := ?oo18_119) ?hoo18_119 (fun K hK => ?stepW18) AllReadyH.nil)); (case hoo14_119 => (simp only [List.getElem?_toArray, List.getElem?_cons_zero, List.getElem?_cons_succ]; rfl)); (case hoo18_119 => (simp only [List.getElem?_toArray, List.getElem?_cons_zero, List.getElem?_cons_succ]; rfl))
                case stepW14 =>
                  go_simp
                  refine Calls.mono (hwith1 _ hS0) ?_
                  rintro e U2 ⟨A2, c2, rfl, hown2, hb2⟩
                  unfold wyv
                  have hS2 : S U2 := (show Below U1.heap.size U1 U1.drew from hS0).trans hb2
                  refine hK.out _ _ hS2 (fun _ => ?_)
                  clear hK K
                  (try simp only [Act.put, List.setIfInBounds_toArray, List.set_cons_zero, List.set_cons_succ])
                  change At 15 _
                  iterate 3 (first | (apply tkA; (case hi => (simp only [List.getElem?_toArray, List.getElem?_cons_zero, List.getElem?_cons_succ]; rfl)); (case hw => rfl); (case hy => (intro w' hSw; (try simp only [S] at hSw); go_simp; (try with_reducible rfl))); (case hs => kernel_rfl); (case hf => kernel_rfl); (case hr => kernel_rfl); (case hQ => exact fun _ _ _ h => h); (case hS => assumption); (try simp only [Act.put, List.setIfInBounds_toArray, List.set_cons_zero, List.set_cons_succ, Nat.reduceAdd])) | (apply skA; (case hi => (simp only [List.getElem?_toArray, List.getElem?_cons_zero, List.getElem?_cons_succ]; rfl)); (case hw => rfl); (case hs => kernel_rfl); (case hf => kernel_rfl); (case hr => kernel_rfl); (case hQ => exact fun _ _ _ h => h); (case hS => assumption); (try simp only [Act.put, List.setIfInBounds_toArray, List.set_cons_zero, List.set_cons_succ, Nat.reduceAdd])))
                  change wpAnyH _ _ _ _ _ _ _ _ _
                  refine wpAnyH_ready (rs := [18]) (by kernel_rfl) (by simp) (AllReadyH.cons (o := ?oo18_120) ?hoo18_120 (fun K hK => ?steponly120) AllReadyH.nil); (case hoo18_120 => (simp only [List.getElem?_toArray, List.getElem?_cons_zero, List.getElem?_cons_succ]; rfl))
                  refine step_new rfl hyz rfl ?_
                  have hbA : Below U2.heap.size U2 (U2.alloc (.cells wyz 37)) := (Below.refl _ _).alloc (Nat.le_refl _) _
                  have hgA : (U2.alloc (.cells wyz 37)).heap[U2.heap.size]? = some (.cells wyz 37) := heap_alloc_new _ _
                  obtain ⟨U3, hU3⟩ : ∃ q, U2.alloc (.cells wyz 37) = q := ⟨_, rfl⟩
                  rw [hU3] at hbA hgA ⊢
                  obtain ⟨gs, hgs⟩ : ∃ q, U2.heap.size = q := ⟨_, rfl⟩
                  have hS3 : S U3 := bNext hS2 hbA
                  rw [hgs] at hgA ⊢
                  refine hK.out _ _ hS3 (fun _ => ?_)
                  clear hK K hU3
                  (try simp only [Act.put, List.setIfInBounds_toArray, List.set_cons_zero, List.set_cons_succ])
                  refine wpAnyH_ready (rs := [19]) (by kernel_rfl) (by simp) (AllReadyH.cons (o := ?oo19_121) ?hoo19_121 (fun K hK => ?steponly121) AllReadyH.nil); (case hoo19_121 => (simp only [List.getElem?_toArray, List.getElem?_cons_zero, List.getElem?_cons_succ]; rfl))
                  refine step_row rfl 37 (.tmp 9) (.tmp 67) rfl gs #[.slice A2 WW.ends.length c2, .int .i64 WW.total, .int .i64 WW.over] rfl rfl _ wyz hgA (wyii _ _) rfl (by simp [Value.oneCell']) ?_
                  have hb3 := bSetRow (Below.refl gs U3) (Nat.le_refl _) (g := gs) #[.slice A2 WW.ends.length c2, .int .i64 WW.total, .int .i64 WW.over]
                  have hg4 := setRow_heap U3 gs _ #[.slice A2 WW.ends.length c2, .int .i64 WW.total, .int .i64 WW.over] _ _ hgA
                  obtain ⟨U4, hU4⟩ : ∃ q, U3.setRow gs #[.slice A2 WW.ends.length c2, .int .i64 WW.total, .int .i64 WW.over] = q := ⟨_, rfl⟩
                  rw [hU4] at hb3 hg4 ⊢
                  have hb24 : Below U2.heap.size U2 U4 := hbA.trans (by rw [hgs]; exact hb3)
                  have hS4 : S U4 := bNext hS2 hb24
                  have hiv4 := (IvN.own (Z := U1.drew) rfl hown2 (show F < U1.drew.heap.size by show F < U1.heap.size; omega) HI.out.2.2.2.1).but (but_of hb24)
                  have hle : U1.heap.size ≤ gs := by rw [← hgs]; exact (show Below U1.heap.size U1 U2 from hS2).size
                  refine hK.out _ _ hS4 (fun _ => ?_)
                  clear hK K hU4
                  (try simp only [Act.put, List.setIfInBounds_toArray, List.set_cons_zero, List.set_cons_succ])
                  change At 20 _
                  iterate 1 (first | (apply tkA; (case hi => (simp only [List.getElem?_toArray, List.getElem?_cons_zero, List.getElem?_cons_succ]; rfl)); (case hw => rfl); (case hy => (intro w' hSw; (try simp only [S] at hSw); go_simp; (try with_reducible rfl))); (case hs => kernel_rfl); (case hf => kernel_rfl); (case hr => kernel_rfl); (case hQ => exact fun _ _ _ h => h); (case hS => assumption); (try simp only [Act.put, List.setIfInBounds_toArray, List.set_cons_zero, List.set_cons_succ, Nat.reduceAdd])) | (apply skA; (case hi => (simp only [List.getElem?_toArray, List.getElem?_cons_zero, List.getElem?_cons_succ]; rfl)); (case hw => rfl); (case hs => kernel_rfl); (case hf => kernel_rfl); (case hr => kernel_rfl); (case hQ => exact fun _ _ _ h => h); (case hS => assumption); (try simp only [Act.put, List.setIfInBounds_toArray, List.set_cons_zero, List.set_cons_succ, Nat.reduceAdd])))
                  change wpAnyH _ _ _ _ _ _ _ _ _
                  refine wpAnyH_done (by kernel_rfl) ?_ _
                  have HE := Lib.hid (And.intro hle (And.intro hg4 (And.intro hiv4 (show Below U1.heap.size U1 U4 from hS4))))
                  clear hle hg4 hiv4 hS4 hb24 hb3 hS3 hbA hgA hS2 hb2 hown2 hS0 hgs
                  go_wp2_with fail
                  go_meet
                  case rel => exact ⟨gs, A2, c2, rfl, rfl, HE.out.1, HE.out.2.1, HE.out.2.2.1, HE.out.2.2.2⟩
                case stepW18 =>
                  refine step_new rfl hyz rfl ?_
                  have hbA : Below U1.heap.size U1 (U1.drew.alloc (.cells wyz 37)) := (Below.refl _ _).drew.alloc (Nat.le_refl _) _
                  have hgA : (U1.drew.alloc (.cells wyz 37)).heap[U1.drew.heap.size]? = some (.cells wyz 37) := heap_alloc_new _ _
                  obtain ⟨U2, hU2⟩ : ∃ q, U1.drew.alloc (.cells wyz 37) = q := ⟨_, rfl⟩
                  obtain ⟨gs, hgs⟩ : ∃ q, U1.drew.heap.size = q := ⟨_, rfl⟩
                  rw [hU2] at hbA hgA ⊢
                  rw [hgs] at hgA ⊢
                  have hS2 : S U2 := hbA
                  refine hK.out _ _ hS2 (fun _ => ?_)
                  clear hK K hU2
                  (try simp only [Act.put, List.setIfInBounds_toArray, List.set_cons_zero, List.set_cons_succ])
                  refine wpAnyH_ready (rs := [14]) (by kernel_rfl) (by simp) (AllReadyH.cons (o := ?oo14_122) ?hoo14_122 (fun K hK => ?steponly122) AllReadyH.nil); (case hoo14_122 => (simp only [List.getElem?_toArray, List.getElem?_cons_zero, List.getElem?_cons_succ]; rfl))
                  go_simp
                  refine Calls.mono (hwith1 _ hbA) ?_
                  rintro e U3 ⟨A2, c2, rfl, hown2, hb3⟩
                  unfold wyv
                  have lg2 := (Array.getElem?_eq_some_iff.1 hgA).1
                  have hg3 := bBlk hb3 lg2 hgA
                  have hS3 : S U3 := bNext hbA hb3
                  refine hK.out _ _ hS3 (fun _ => ?_)
                  clear hK K
                  (try simp only [Act.put, List.setIfInBounds_toArray, List.set_cons_zero, List.set_cons_succ])
                  change At 15 _
                  iterate 3 (first | (apply tkA; (case hi => (simp only [List.getElem?_toArray, List.getElem?_cons_zero, List.getElem?_cons_succ]; rfl)); (case hw => rfl); (case hy => (intro w' hSw; (try simp only [S] at hSw); go_simp; (try with_reducible rfl))); (case hs => kernel_rfl); (case hf => kernel_rfl); (case hr => kernel_rfl); (case hQ => exact fun _ _ _ h => h); (case hS => assumption); (try simp only [Act.put, List.setIfInBounds_toArray, List.set_cons_zero, List.set_cons_succ, Nat.reduceAdd])) | (apply skA; (case hi => (simp only [List.getElem?_toArray, List.getElem?_cons_zero, List.getElem?_cons_succ]; rfl)); (case hw => rfl); (case hs => kernel_rfl); (case hf => kernel_rfl); (case hr => kernel_rfl); (case hQ => exact fun _ _ _ h => h); (case hS => assumption); (try simp only [Act.put, List.setIfInBounds_toArray, List.set_cons_zero, List.set_cons_succ, Nat.reduceAdd])))
                  change wpAnyH _ _ _ _ _ _ _ _ _
                  refine wpAnyH_ready (rs := [19]) (by kernel_rfl) (by simp) (AllReadyH.cons (o := ?oo19_123) ?hoo19_123 (fun K hK => ?steponly123) AllReadyH.nil); (case hoo19_123 => (simp only [List.getElem?_toArray, List.getElem?_cons_zero, List.getElem?_cons_succ]; rfl))
                  refine step_row rfl 37 (.tmp 9) (.tmp 67) rfl gs #[.slice A2 WW.ends.length c2, .int .i64 WW.total, .int .i64 WW.over] rfl rfl _ wyz hg3 (wyii _ _) rfl (by simp [Value.oneCell']) ?_
                  have hle : U1.heap.size ≤ gs := by rw [← hgs]; exact Nat.le_refl _
                  have hb4 := bSetRow (show Below U1.heap.size U1 U3 from hS3) hle #[.slice A2 WW.ends.length c2, .int .i64 WW.total, .int .i64 WW.over]
                  have hg4 := setRow_heap U3 gs _ #[.slice A2 WW.ends.length c2, .int .i64 WW.total, .int .i64 WW.over] _ _ hg3
                  have hown4 := own_setRow hown2 lg2 #[.slice A2 WW.ends.length c2, .int .i64 WW.total, .int .i64 WW.over]
                  obtain ⟨U4, hU4⟩ : ∃ q, U3.setRow gs #[.slice A2 WW.ends.length c2, .int .i64 WW.total, .int .i64 WW.over] = q := ⟨_, rfl⟩
                  rw [hU4] at hb4 hg4 hown4 ⊢
                  have hS4 : S U4 := hb4
                  have hiv4 := IvN.own (F := F) (Z := U2) rfl hown4 (by have := hbA.size; omega) HI.out.2.2.2.1
                  refine hK.out _ _ hS4 (fun _ => ?_)
                  clear hK K hU4
                  (try simp only [Act.put, List.setIfInBounds_toArray, List.set_cons_zero, List.set_cons_succ])
                  change At 20 _
                  iterate 1 (first | (apply tkA; (case hi => (simp only [List.getElem?_toArray, List.getElem?_cons_zero, List.getElem?_cons_succ]; rfl)); (case hw => rfl); (case hy => (intro w' hSw; (try simp only [S] at hSw); go_simp; (try with_reducible rfl))); (case hs => kernel_rfl); (case hf => kernel_rfl); (case hr => kernel_rfl); (case hQ => exact fun _ _ _ h => h); (case hS => assumption); (try simp only [Act.put, List.setIfInBounds_toArray, List.set_cons_zero, List.set_cons_succ, Nat.reduceAdd])) | (apply skA; (case hi => (simp only [List.getElem?_toArray, List.getElem?_cons_zero, List.getElem?_cons_succ]; rfl)); (case hw => rfl); (case hs => kernel_rfl); (case hf => kernel_rfl); (case hr => kernel_rfl); (case hQ => exact fun _ _ _ h => h); (case hS => assumption); (try simp only [Act.put, List.setIfInBounds_toArray, List.set_cons_zero, List.set_cons_succ, Nat.reduceAdd])))
                  change wpAnyH _ _ _ _ _ _ _ _ _
                  refine wpAnyH_done (by kernel_rfl) ?_ _
                  have HE := Lib.hid (And.intro hle (And.intro hg4 (And.intro hiv4 (show Below U1.heap.size U1 U4 from hS4))))
                  clear hle hg4 hiv4 hS4 hown4 hb4 hg3 hb3 hS3 hbA hgA hS2 hown2 hS0 hgs lg2
                  go_wp2_with fail
                  go_meet
                  case rel => exact ⟨gs, A2, c2, rfl, rfl, HE.out.1, HE.out.2.1, HE.out.2.2.1, HE.out.2.2.2⟩
              case rest =>
                obtain ⟨G, A2, c2, rfl, rfl, hG, hgb, hiv2, hbX⟩ := hcut
                rename World => X1
                have hb1 := HZ.out.2
                have hbrX : Below F X X1 := HI.out.2.1.trans ((bNext hb1 hbX).mono (by omega))
                have hrepX := HI.out.1.nxt (bNext hb1 hbX)
                have hst := HZ.out.1
                clear hb1
                cases MY
                · cases all
                  · have HY2 := Lib.hid (And.intro hrepX (And.intro hbrX hst))
                    clear hrepX hbrX hst hgb hiv2 hbX HZ ci1 ck1 rB1 rW1 hwith1
                    go_wp2_with fail
                    go_roundw
                    case rel => exact ⟨i + 1, by omega, by go_num, HY2.out.2.1, cs2, by rw [HY2.out.2.2]; exact HY2.out.1⟩
                    case measure => simp [intOf]; omega
                  · have hst2 : bestTo l wd tl true fl k (i + 1) = offr (bestTo l wd tl true fl k i) WW := hst
                    have hdX : Below X1.heap.size X1 X1.drew := (Below.refl _ _).drew
                    have hoff := offer_step (y := WW) X1.drew (hrepX.nxt hdX) hlt HK.out.1 (hiv2.but (but_of hdX)) (by omega) HI.out.2.2.2.2
                    unfold wyv at hoff
                    have lG := (Array.getElem?_eq_some_iff.1 hgb).1
                    have rG := range_blk hgb
                    have lFX := (Array.getElem?_eq_some_iff.1 hrepX.blk).1
                    have HY2 := Lib.hid (And.intro hbrX hst2)
                    clear hrepX hbrX hst hst2 hgb hiv2 hbX HZ ci1 ck1 rB1 rW1 hwith1 hdX
                    go_upto_region 13 with (fail)
                    let S : World → Prop := fun w' => But X1.heap.size (· = F) X1 w'
                    have hS0 : S X1.drew := (But.refl _ _ _).drew
                    have qG : ∀ w', S w' → w'.rangeAt G 0 [.slice A2 WW.ends.length c2, .int .i64 WW.total, .int .i64 WW.over] := fun w' h => But.range (show But X1.heap.size (· = F) X1 w' from h) lG (fun e : G = F => by omega) rG
                    clear rG
                    refine wp_region_held (S := S) (by kernel_rfl) ?_
                    change wpAnyH _ _ _ _ S _ _ _ X1.drew
                    change At 0 _
                    iterate 3 (first | (apply tkA; (case hi => (simp only [List.getElem?_toArray, List.getElem?_cons_zero, List.getElem?_cons_succ]; rfl)); (case hw => rfl); (case hy => (intro w' hSw; (try simp only [S] at hSw); go_simp; (try with_reducible rfl))); (case hs => kernel_rfl); (case hf => kernel_rfl); (case hr => kernel_rfl); (case hQ => exact fun _ _ _ h => h); (case hS => assumption); (try simp only [Act.put, List.setIfInBounds_toArray, List.set_cons_zero, List.set_cons_succ, Nat.reduceAdd])) | (apply skA; (case hi => (simp only [List.getElem?_toArray, List.getElem?_cons_zero, List.getElem?_cons_succ]; rfl)); (case hw => rfl); (case hs => kernel_rfl); (case hf => kernel_rfl); (case hr => kernel_rfl); (case hQ => exact fun _ _ _ h => h); (case hS => assumption); (try simp only [Act.put, List.setIfInBounds_toArray, List.set_cons_zero, List.set_cons_succ, Nat.reduceAdd])))
                    change wpAnyH _ _ _ _ _ _ _ _ _
                    refine wpAnyH_take (i := 3) (oi := ?oi_115) (v := ?v_115) ?ho_115 ?h1_115 ?h2_115 ?h3_115 ?hq_115 (Or.inl ⟨?hw_115, ?hy_115⟩) ?hs_115 ?rest_115; (case h2_115 => kernel_rfl); (case h3_115 => kernel_rfl); (case ho_115 => (simp only [List.getElem?_toArray, List.getElem?_cons_zero, List.getElem?_cons_succ]; rfl)); (case h1_115 => kernel_rfl); (case hq_115 => exact fun _ _ _ h => h); (case hw_115 => rfl); (case hy_115 => (intro w' hSw; refine exec_load_row (x := .tmp 9) ?_ ?_ (qG w' hSw) Try.underlying37 ?_ wys <;> rfl)); (case hs_115 => assumption); (try simp only [Act.put, List.setIfInBounds_toArray, List.set_cons_zero, List.set_cons_succ])
                    clear qG
                    refine wpAnyH_ready (rs := [4]) (by kernel_rfl) (by simp) (AllReadyH.cons (o := ?oo4_124) ?hoo4_124 (fun K hK => ?steponly124) AllReadyH.nil); (case hoo4_124 => (simp only [List.getElem?_toArray, List.getElem?_cons_zero, List.getElem?_cons_succ]; rfl))
                    go_simp
                    refine Calls.mono hoff ?_
                    rintro e U5 ⟨rfl, hb5, cs3, hrep3⟩
                    have hS5 : S U5 := (show But X1.heap.size (· = F) X1 X1.drew from hS0).trans hb5
                    refine hK.out _ _ hS5 (fun _ => ?_)
                    clear hK K hoff
                    (try simp only [Act.put, List.setIfInBounds_toArray, List.set_cons_zero, List.set_cons_succ])
                    refine wpAnyH_done (by kernel_rfl) ?_ _
                    have hbr5 : Below F X U5 := HY2.out.1.trans (But.below (show But X1.heap.size (· = F) X1 U5 from hS5) (by omega) (fun k e => by omega))
                    have HY3 := Lib.hid (And.intro hbr5 hrep3)
                    clear hbr5 hrep3 hS0 hS5 hb5
                    go_wp2_with fail
                    go_roundw
                    case rel => exact ⟨i + 1, by omega, by go_num, HY3.out.1, cs3, by rw [HY2.out.2]; exact HY3.out.2⟩
                    case measure => simp [intOf]; omega
                · cases all
                  · have hst2 : bestTo l wd tl false fl k (i + 1) = offr (bestTo l wd tl false fl k i) WW := hst
                    have hdX : Below X1.heap.size X1 X1.drew := (Below.refl _ _).drew
                    have hoff := offer_step (y := WW) X1.drew (hrepX.nxt hdX) hlt HK.out.1 (hiv2.but (but_of hdX)) (by omega) HI.out.2.2.2.2
                    unfold wyv at hoff
                    have lG := (Array.getElem?_eq_some_iff.1 hgb).1
                    have rG := range_blk hgb
                    have lFX := (Array.getElem?_eq_some_iff.1 hrepX.blk).1
                    have HY2 := Lib.hid (And.intro hbrX hst2)
                    clear hrepX hbrX hst hst2 hgb hiv2 hbX HZ ci1 ck1 rB1 rW1 hwith1 hdX
                    go_upto_region 13 with (fail)
                    let S : World → Prop := fun w' => But X1.heap.size (· = F) X1 w'
                    have hS0 : S X1.drew := (But.refl _ _ _).drew
                    have qG : ∀ w', S w' → w'.rangeAt G 0 [.slice A2 WW.ends.length c2, .int .i64 WW.total, .int .i64 WW.over] := fun w' h => But.range (show But X1.heap.size (· = F) X1 w' from h) lG (fun e : G = F => by omega) rG
                    clear rG
                    refine wp_region_held (S := S) (by kernel_rfl) ?_
                    change wpAnyH _ _ _ _ S _ _ _ X1.drew
                    change At 0 _
                    iterate 3 (first | (apply tkA; (case hi => (simp only [List.getElem?_toArray, List.getElem?_cons_zero, List.getElem?_cons_succ]; rfl)); (case hw => rfl); (case hy => (intro w' hSw; (try simp only [S] at hSw); go_simp; (try with_reducible rfl))); (case hs => kernel_rfl); (case hf => kernel_rfl); (case hr => kernel_rfl); (case hQ => exact fun _ _ _ h => h); (case hS => assumption); (try simp only [Act.put, List.setIfInBounds_toArray, List.set_cons_zero, List.set_cons_succ, Nat.reduceAdd])) | (apply skA; (case hi => (simp only [List.getElem?_toArray, List.getElem?_cons_zero, List.getElem?_cons_succ]; rfl)); (case hw => rfl); (case hs => kernel_rfl); (case hf => kernel_rfl); (case hr => kernel_rfl); (case hQ => exact fun _ _ _ h => h); (case hS => assumption); (try simp only [Act.put, List.setIfInBounds_toArray, List.set_cons_zero, List.set_cons_succ, Nat.reduceAdd])))
                    change wpAnyH _ _ _ _ _ _ _ _ _
                    refine wpAnyH_take (i := 3) (oi := ?oi_116) (v := ?v_116) ?ho_116 ?h1_116 ?h2_116 ?h3_116 ?hq_116 (Or.inl ⟨?hw_116, ?hy_116⟩) ?hs_116 ?rest_116; (case h2_116 => kernel_rfl); (case h3_116 => kernel_rfl); (case ho_116 => (simp only [List.getElem?_toArray, List.getElem?_cons_zero, List.getElem?_cons_succ]; rfl)); (case h1_116 => kernel_rfl); (case hq_116 => exact fun _ _ _ h => h); (case hw_116 => rfl); (case hy_116 => (intro w' hSw; refine exec_load_row (x := .tmp 9) ?_ ?_ (qG w' hSw) Try.underlying37 ?_ wys <;> rfl)); (case hs_116 => assumption); (try simp only [Act.put, List.setIfInBounds_toArray, List.set_cons_zero, List.set_cons_succ])
                    clear qG
                    refine wpAnyH_ready (rs := [4]) (by kernel_rfl) (by simp) (AllReadyH.cons (o := ?oo4_125) ?hoo4_125 (fun K hK => ?steponly125) AllReadyH.nil); (case hoo4_125 => (simp only [List.getElem?_toArray, List.getElem?_cons_zero, List.getElem?_cons_succ]; rfl))
                    go_simp
                    refine Calls.mono hoff ?_
                    rintro e U5 ⟨rfl, hb5, cs3, hrep3⟩
                    have hS5 : S U5 := (show But X1.heap.size (· = F) X1 X1.drew from hS0).trans hb5
                    refine hK.out _ _ hS5 (fun _ => ?_)
                    clear hK K hoff
                    (try simp only [Act.put, List.setIfInBounds_toArray, List.set_cons_zero, List.set_cons_succ])
                    refine wpAnyH_done (by kernel_rfl) ?_ _
                    have hbr5 : Below F X U5 := HY2.out.1.trans (But.below (show But X1.heap.size (· = F) X1 U5 from hS5) (by omega) (fun k e => by omega))
                    have HY3 := Lib.hid (And.intro hbr5 hrep3)
                    clear hbr5 hrep3 hS0 hS5 hb5
                    go_wp2_with fail
                    go_roundw
                    case rel => exact ⟨i + 1, by omega, by go_num, HY3.out.1, cs3, by rw [HY2.out.2]; exact HY3.out.2⟩
                    case measure => simp [intOf]; omega
                  · have hst2 : bestTo l wd tl true fl k (i + 1) = offr (bestTo l wd tl true fl k i) WW := hst
                    have hdX : Below X1.heap.size X1 X1.drew := (Below.refl _ _).drew
                    have hoff := offer_step (y := WW) X1.drew (hrepX.nxt hdX) hlt HK.out.1 (hiv2.but (but_of hdX)) (by omega) HI.out.2.2.2.2
                    unfold wyv at hoff
                    have lG := (Array.getElem?_eq_some_iff.1 hgb).1
                    have rG := range_blk hgb
                    have lFX := (Array.getElem?_eq_some_iff.1 hrepX.blk).1
                    have HY2 := Lib.hid (And.intro hbrX hst2)
                    clear hrepX hbrX hst hst2 hgb hiv2 hbX HZ ci1 ck1 rB1 rW1 hwith1 hdX
                    go_upto_region 13 with (fail)
                    let S : World → Prop := fun w' => But X1.heap.size (· = F) X1 w'
                    have hS0 : S X1.drew := (But.refl _ _ _).drew
                    have qG : ∀ w', S w' → w'.rangeAt G 0 [.slice A2 WW.ends.length c2, .int .i64 WW.total, .int .i64 WW.over] := fun w' h => But.range (show But X1.heap.size (· = F) X1 w' from h) lG (fun e : G = F => by omega) rG
                    clear rG
                    refine wp_region_held (S := S) (by kernel_rfl) ?_
                    change wpAnyH _ _ _ _ S _ _ _ X1.drew
                    change At 0 _
                    iterate 3 (first | (apply tkA; (case hi => (simp only [List.getElem?_toArray, List.getElem?_cons_zero, List.getElem?_cons_succ]; rfl)); (case hw => rfl); (case hy => (intro w' hSw; (try simp only [S] at hSw); go_simp; (try with_reducible rfl))); (case hs => kernel_rfl); (case hf => kernel_rfl); (case hr => kernel_rfl); (case hQ => exact fun _ _ _ h => h); (case hS => assumption); (try simp only [Act.put, List.setIfInBounds_toArray, List.set_cons_zero, List.set_cons_succ, Nat.reduceAdd])) | (apply skA; (case hi => (simp only [List.getElem?_toArray, List.getElem?_cons_zero, List.getElem?_cons_succ]; rfl)); (case hw => rfl); (case hs => kernel_rfl); (case hf => kernel_rfl); (case hr => kernel_rfl); (case hQ => exact fun _ _ _ h => h); (case hS => assumption); (try simp only [Act.put, List.setIfInBounds_toArray, List.set_cons_zero, List.set_cons_succ, Nat.reduceAdd])))
                    change wpAnyH _ _ _ _ _ _ _ _ _
                    refine wpAnyH_take (i := 3) (oi := ?oi_117) (v := ?v_117) ?ho_117 ?h1_117 ?h2_117 ?h3_117 ?hq_117 (Or.inl ⟨?hw_117, ?hy_117⟩) ?hs_117 ?rest_117; (case h2_117 => kernel_rfl); (case h3_117 => kernel_rfl); (case ho_117 => (simp only [List.getElem?_toArray, List.getElem?_cons_zero, List.getElem?_cons_succ]; rfl)); (case h1_117 => kernel_rfl); (case hq_117 => exact fun _ _ _ h => h); (case hw_117 => rfl); (case hy_117 => (intro w' hSw; refine exec_load_row (x := .tmp 9) ?_ ?_ (qG w' hSw) Try.underlying37 ?_ wys <;> rfl)); (case hs_117 => assumption); (try simp only [Act.put, List.setIfInBounds_toArray, List.set_cons_zero, List.set_cons_succ])
                    clear qG
                    refine wpAnyH_ready (rs := [4]) (by kernel_rfl) (by simp) (AllReadyH.cons (o := ?oo4_126) ?hoo4_126 (fun K hK => ?steponly126) AllReadyH.nil); (case hoo4_126 => (simp only [List.getElem?_toArray, List.getElem?_cons_zero, List.getElem?_cons_succ]; rfl))
                    go_simp
                    refine Calls.mono hoff ?_
                    rintro e U5 ⟨rfl, hb5, cs3, hrep3⟩
                    have hS5 : S U5 := (show But X1.heap.size (· = F) X1 X1.drew from hS0).trans hb5
                    refine hK.out _ _ hS5 (fun _ => ?_)
                    clear hK K hoff
                    (try simp only [Act.put, List.setIfInBounds_toArray, List.set_cons_zero, List.set_cons_succ])
                    refine wpAnyH_done (by kernel_rfl) ?_ _
                    have hbr5 : Below F X U5 := HY2.out.1.trans (But.below (show But X1.heap.size (· = F) X1 U5 from hS5) (by omega) (fun k e => by omega))
                    have HY3 := Lib.hid (And.intro hbr5 hrep3)
                    clear hbr5 hrep3 hS0 hS5 hb5
                    go_wp2_with fail
                    go_roundw
                    case rel => exact ⟨i + 1, by omega, by go_num, HY3.out.1, cs3, by rw [HY2.out.2]; exact HY3.out.2⟩
                    case measure => simp [intOf]; omega
        · obtain rfl : i = k := by omega
          have hii : ¬ (i : Int) < (i : Int) := by omega
          have hrepf : FRep wr F N (fnd l wd tl all i) cs2 := by rw [HK.out.2.1]; exact hrep
          have HZ := Lib.hid (And.intro hrepf hbr)
          clear hrepf hrep hbr
          go_wp2_with fail
          go_roundw
          case rel => exact ⟨i + 1, by omega, by omega, by go_num, HZ.out.2, cs2, by rw [Nat.add_sub_cancel]; exact HZ.out.1⟩
          case measure => simp [intOf]; omega
    · obtain rfl : k = N := by omega
      have hi1 : ¬ (k : Int) < (k : Int) := by omega
      obtain rfl : K = k - 1 := by omega
      have hcel := hrep.cel (k - 1) (by omega)
      have hkk : ((k - 1 : Nat) : Int) < (k : Int) := by omega
      have hkk2 : k - 1 < k := by omega
      have g1 : IntKind.i64.wrap ((k : Int) - 1) = ((k - 1 : Nat) : Int) := by rw [wrap_small _ (by omega) (by omega)]; omega
      rw [HWR.out] at hcel
      have hrow : ∃ A0 m0 c0, wr.rangeAt F ((k - 1) * 4) [.slice A0 m0 c0, .int .i64 (Wo.getD wy0).total, .int .i64 (Wo.getD wy0).over, .bool Wo.isSome] ∧ IvN wr F A0 m0 c0 (Wo.getD wy0).ends := by
        cases Wo with
        | none =>
          refine ⟨none, 0, 0, fun j v hj => ?_, ⟨⟨fun x hx => by simp [wy0] at hx, rfl, Sl.nil, Nat.le_refl _⟩, fun b o i e => by cases e⟩⟩
          match j, hj with
          | 0, hj => injection hj with hj; subst hj; exact blk_cell hrep.blk hcel.1
          | 1, hj => injection hj with hj; subst hj; exact blk_cell hrep.blk hcel.2.1
          | 2, hj => injection hj with hj; subst hj; exact blk_cell hrep.blk hcel.2.2.1
          | 3, hj => injection hj with hj; subst hj; exact blk_cell hrep.blk hcel.2.2.2
        | some y =>
          obtain ⟨A0, m0, c0, h0, h1, h2, h3, h4⟩ := hcel
          refine ⟨A0, m0, c0, fun j v hj => ?_, h4⟩
          match j, hj with
          | 0, hj => injection hj with hj; subst hj; exact blk_cell hrep.blk h0
          | 1, hj => injection hj with hj; subst hj; exact blk_cell hrep.blk h1
          | 2, hj => injection hj with hj; subst hj; exact blk_cell hrep.blk h2
          | 3, hj => injection hj with hj; subst hj; exact blk_cell hrep.blk h3
      obtain ⟨A0, m0, c0, hrow, hiv⟩ := hrow
      obtain ⟨cw, hcw⟩ : ∃ q : List Value, [.slice A0 m0 c0, .int .i64 (Wo.getD wy0).total, .int .i64 (Wo.getD wy0).over, .bool Wo.isSome] = q := ⟨_, rfl⟩
      rw [hcw] at hrow
      have hw3 : (Try.prog.info? 67).map (·.size) = some cw.length := by rw [← hcw]; exact best_size
      have hw3' : (Try.prog.info? 67).map (·.size) = some cw.toArray.size := by rw [← hcw]; exact best_size
      have hzc : zw.size = cw.toArray.size := by rw [hz4, ← hcw]; rfl
      have hc1 : cw.toArray.all (·.oneCell') = true := by rw [← hcw]; simp [Value.oneCell']
      have hFz := (Array.getElem?_eq_some_iff.1 hrep.blk).1
      have r4 := bBlk hbr ly4 HX.out.2.2.2.1
      have hbw : Below w.heap.size w wr := HX.out.2.1.trans (hbr.mono hwF)
      have HZ := Lib.hid (And.intro hiv (And.intro hbw hcw))
      clear hrep hiv hbr hbw hcw hcel
      go_wp2_with (first
        | (refine wpList_load_mid rfl 67 (.tmp 83) rfl F ((k - 1) * 4) rfl cw _ hrow Try.underlying67 rfl hw3 ?_)
        | (refine wpList_store_row rfl 67 (.tmp 4) (.tmp 84) rfl _ cw.toArray rfl rfl _ zw r4 hw3' hzc hc1 ?_)
        | fail)
      generalize hX : World.setRow _ _ _ = X9
      have b9 : X9.heap[b4]? = some (.cells cw.toArray 67) := by rw [← hX]; exact setRow_heap _ _ _ _ _ _ r4
      have h4w : w.heap.size ≤ b4 := by omega
      have hBX : Below w.heap.size w X9 := by rw [← hX]; exact bSetRow HZ.out.2.1 h4w _
      have hsz9 : wr.heap.size ≤ X9.heap.size := by rw [← hX]; exact (bSetRow (Below.refl b4 wr) (Nat.le_refl _) _).size
      have hivX : IvAt X9 X9.heap.size A0 m0 c0 (Wo.getD wy0).ends := by
        obtain ⟨hw, hlen, hsl, hcap⟩ := HZ.out.1.iv
        refine ⟨hw, hlen, ⟨hsl.len, fun h0 => ?_⟩, hcap⟩
        obtain ⟨b, o, e, hlt, hr⟩ := hsl.at_ h0
        refine ⟨b, o, e, by omega, fun j v hj => ?_⟩
        have hne : b ≠ b4 := by have := HZ.out.1.far b o none e; omega
        refine Eq.trans (World.cell?_of_block (a := ⟨b, o + j, none⟩) ?_) (hr j v hj)
        rw [← hX]
        exact setRow_other _ _ _ _ hne
      clear hX
      have hld := run_loadVar_row (P := Try.prog) X9 _ _ 67 _ _ _ b9 Try.underlying67 rfl hw3'
      refine bodyPost_ret (by simp [results, Try.results30, Act.put, asAddr, Result.andThen, hld]; try rfl) rfl ?_
      exact ⟨A0, m0, c0, by rw [← HZ.out.2.2], hivX, fun b o i e => by have := HZ.out.1.far b o i e; omega, hBX⟩
end Go.Proofs.Ytnojikbecohhfaa

