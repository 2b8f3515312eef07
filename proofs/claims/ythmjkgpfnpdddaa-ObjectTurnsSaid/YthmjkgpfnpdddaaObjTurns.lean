/- The walk over ObjectTurns. -/
import Derived.Test.YthmjkgpfnpdddaaObjWakes
namespace Go.Proofs.Ythmjkgpfnpdddaa
set_option linter.unusedSimpArgs false
set_option linter.unusedVariables false
open Go.RowKit Go.ChangeShapes Go.WideShapes Go.Sort

theorem big_turns {a x y : Int} {A : Option Addr} {n c : Nat} (w : World) (h : 1000 < n) : Calls Try.prog 5 #[.int .u8 a, .slice A n c, .agg #[.int .u16 x, .int .u16 y]] w (Ret w (.bool true)) := by
  go_enter Try.func5, Try.ntmps5
  go_wp2_with (first
    | (go_at_call 13; refine Calls.mono (wakes03_any _) ?_; rintro e W3 ⟨rfl, hb3⟩)
    | fail)
  go_ret
  exact Ret.mk rfl (((Below.refl _ _).alloc (Nat.le_refl _) _).trans (hb3.mono (by simp)))
/-- any bytes are blocks, if they are as many -/
theorem blocks_of : ∀ (n : Nat) (l : List UInt8), l.length = n * 128 → ∃ m : List Blk, All128 m ∧ m.length = n ∧ m.flatten = l
  | 0, l, h => ⟨[], (fun x hx => by cases hx), rfl, (List.eq_nil_of_length_eq_zero (by omega)).symm⟩
  | n + 1, l, h => by
    obtain ⟨m, h1, h2, h3⟩ := blocks_of n (l.drop 128) (by rw [List.length_drop]; omega)
    refine ⟨l.take 128 :: m, fun x hx => ?_, by rw [List.length_cons, h2], by rw [List.flatten_cons, h3, List.take_append_drop]⟩
    rcases List.mem_cons.1 hx with rfl | hx
    · rw [List.length_take]; omega
    · exact h1 x hx
theorem xor_u8 (x y : UInt8) : bits .xor .u8 (x.toNat : Int) (y.toNat : Int) = (((x ^^^ y).toNat : Nat) : Int) := by
  have h1 := x.toNat_lt
  have h2 := y.toNat_lt
  have hx : x.toNat ^^^ y.toNat < 2 ^ 8 := Nat.xor_lt_two_pow (by omega) (by omega)
  show IntKind.u8.wrap ((BitVec.ofInt 8 (x.toNat : Int) ^^^ BitVec.ofInt 8 (y.toNat : Int)).toNat : Int) = _
  rw [BitVec.toNat_xor, BitVec.ofInt_natCast, BitVec.ofInt_natCast, BitVec.toNat_ofNat, BitVec.toNat_ofNat, Nat.mod_eq_of_lt h1, Nat.mod_eq_of_lt h2, IntKind.wrap_u8, UInt8.toNat_xor]
  omega
attribute [-go_sem] Builtin.append_
set_option maxHeartbeats 16000000 in
set_option maxRecDepth 100000 in
theorem turns_core {a x y : Int} (a0 : 0 ≤ a) (a1 : a < 256) (x0 : 0 ≤ x) (x1 : x < 65536) (y0 : 0 ≤ y) (y1 : y < 65536) {A : Option Addr} {n c : Nat} {body : List UInt8} (w : World) (hs : Sl w w.heap.size 1 A n (bvs body)) (hl : body.length = n) (hn : n ≤ 1000) :
    Calls Try.prog 5 #[.int .u8 a, .slice A n c, .agg #[.int .u16 x, .int .u16 y]] w (Ret w (.bool true)) := by
  obtain ⟨k, hk⟩ : ∃ k, 1 + a % 6 = k := ⟨_, rfl⟩
  have hok : obOk k n = true := obOk_iff.2 ⟨by omega, by omega, hn⟩
  have hfr := fun W (h : Below w.heap.size w W) => frame_any (kind := k) (c := c) hl W (hs.next h) (Nat.le_refl _)
  rw [show frameE k n = 0 from by unfold frameE; rw [hok]; rfl] at hfr
  have hl8 := frame_len8 k body
  have hall := frame_all k body
  have hlen : 1 ≤ (frameB k body).length := by
    have := frame_len (kind := k) (body := body) (by rw [hl]; exact hok)
    rw [hl] at this
    unfold blocksN at this
    rw [if_neg (by omega)] at this
    omega
  obtain ⟨F, hF⟩ : ∃ q, frameB k body = q := ⟨_, rfl⟩
  rw [hF] at hl8 hall hlen
  simp only [hF] at hfr
  have HF := Lib.hid (And.intro hl8 (And.intro hall hlen))
  clear hF hok hl8 hall hlen
  have e1 : IntKind.i64.wrap a = a := wrap_small _ (by omega) (by omega)
  have e2 : a.tmod 6 = a % 6 := Int.tmod_eq_emod_of_nonneg a0
  have e3 : IntKind.i64.wrap (a % 6) = a % 6 := wrap_small _ (by omega) (by omega)
  have e4 : IntKind.i64.wrap (1 + a % 6) = k := by rw [hk]; exact wrap_small _ (by omega) (by omega)
  have HK := Lib.hid hk
  clear hk
  go_enter Try.func5, Try.ntmps5
  go_upto_region 1 with (fail)
  obtain ⟨W, hW⟩ : ∃ W, w.alloc (.cells #[.int .u16 x, .int .u16 y] 45) = W := ⟨_, rfl⟩
  try rw [hW]
  have a5 : W.heap[w.heap.size]? = some (.cells #[.int .u16 x, .int .u16 y] 45) := by rw [← hW]; exact heap_alloc_new _ _
  have hB : Below w.heap.size w W := by rw [← hW]; exact (Below.refl _ _).alloc (Nat.le_refl _) _
  have l5 := (Array.getElem?_eq_some_iff.1 a5).1
  have hfr' := hfr W hB
  have HB := Lib.hid hB
  have HA := Lib.hid a5
  clear hW hfr hB a5
  go_wp2_with fail
  refine Calls.mono hfr' ?_
  rintro e Y ⟨A7, n7, c7, rfl, hn7, hnc7, hcm7, hs7, hb⟩
  clear hfr'
  obtain ⟨hl8, hall, hlen⟩ := HF.out
  have h78 : n7 ≤ 8 := by omega
  have h71 : 1 ≤ n7 := by omega
  have hBY := bNext HB.out hb
  have a5 := bBlk hb l5 HA.out
  have l6 := (Array.getElem?_eq_some_iff.1 a5).1
  have x5 : Y.cell? ⟨w.heap.size, 0, none⟩ = some (.int .u16 x) := blk_cell a5 rfl
  have y5 : Y.cell? ⟨w.heap.size, 1, none⟩ = some (.int .u16 y) := blk_cell a5 rfl
  have hS := Lib.hid (And.intro hs7 (And.intro hBY (And.intro hall hn7)))
  clear hb HB HA l5 HF hl8 hall hlen hn7 hs7 hBY a5
  have g1 : ¬ (n7 : Int) = 0 := by omega
  have g1' : ((n7 : Int) == 0) = false := by simpa using g1
  obtain ⟨q, hq⟩ : ∃ q : Int, x % ((n7 : Int) * 128) = q := ⟨_, rfl⟩
  have q0 : 0 ≤ q := by rw [← hq]; exact Int.emod_nonneg _ (by omega)
  have q1 : q < (n7 : Int) * 128 := by rw [← hq]; exact Int.emod_lt_of_pos _ (by omega)
  have f1 : IntKind.i64.wrap x = x := wrap_small _ (by omega) (by omega)
  have f2 : IntKind.i64.wrap ((n7 : Int) * 128) = (n7 : Int) * 128 := wrap_small _ (by omega) (by omega)
  have f3 : x.tmod ((n7 : Int) * 128) = q := by rw [Int.tmod_eq_emod_of_nonneg x0]; exact hq
  have f4 : IntKind.i64.wrap q = q := wrap_small _ (by omega) (by omega)
  go_upto_region 8 with (fail)
  have hsY := hS.out.1
  have hbA : Below Y.heap.size Y (Y.alloc (.cells #[] 40)) := (Below.refl _ _).alloc (Nat.le_refl _) _
  have hs2 := hsY.below hbA
  clear hsY x5 y5 f1 f2 f3
  go_upto_region 9 with (first
    | (at_builtin; go_loud (refine wpList_app _ rfl (.tmp 49) (.tmp 50) 23 rfl (base := Y.heap.size) Try.underlying23 elemB rfl (own_none' Y Y.heap.size 40 128 (Nat.le_refl _)) rfl hs2 (by rw [bsv_flat]; exact oneCell_bvs _) (by simp only [maxLen]; omega) (by omega) (by simp) ?_; intro A51 c51 w51 hown hg hb hat; simp only [Nat.zero_add, List.nil_append] at hown ⊢))
    | fail)
  have hbY := hbA.trans hb
  clear hbA hs2 hg hb hat
  obtain ⟨g, cap, cur, e, hgb, hgh, hgn, hgm, hgs, hgt⟩ : ∃ g cap cur, Value.slice A51 n7 c51 = .slice (some ⟨g, 0, none⟩) n7 cap ∧ Y.heap.size ≤ g ∧ w51.heap[g]? = some (.cells cur 40) ∧ n7 ≤ cap ∧ cap ≤ maxLen ∧ cur.size = cap * 128 ∧ cur.toList.take (n7 * 128) = bsv F := by
    rcases hown.2 with ⟨_, e⟩ | ⟨g, cap, cur, e, h1, h2, h3, h4, h5, h6⟩
    · omega
    · exact ⟨g, cap, cur, e, h1, h2, h3, h4, h5, h6⟩
  simp only [Value.slice.injEq, true_and] at e
  obtain ⟨rfl, rfl⟩ := e
  obtain ⟨Q, rfl⟩ : ∃ Q : Nat, q = (Q : Int) := ⟨q.toNat, by omega⟩
  obtain ⟨I, hI⟩ : ∃ I, Q / 128 = I := ⟨_, rfl⟩
  obtain ⟨J, hJ⟩ : ∃ J, Q % 128 = J := ⟨_, rfl⟩
  have hIJ : I * 128 + J = Q := by omega
  have hIn : I < n7 := by omega
  have hJn : J < 128 := by omega
  obtain ⟨hall, hn7⟩ := hS.out.2.2
  have hfl : F.flatten.length = n7 * 128 := by rw [flat_len hall, hn7]
  have hQl : Q < F.flatten.length := by omega
  obtain ⟨u, hu⟩ : ∃ u, F.flatten[Q] = u := ⟨_, rfl⟩
  rw [bsv_flat] at hgt
  have hcq : cur[Q]? = some (.int .u8 (u.toNat : Int)) := by
    have h1 : (cur.toList.take (n7 * 128))[Q]? = some (.int .u8 (u.toNat : Int)) := by
      rw [hgt]
      show (F.flatten.map bv)[Q]? = _
      rw [List.getElem?_map, List.getElem?_eq_getElem hQl, hu]
      rfl
    rw [List.getElem?_take, if_pos (by omega)] at h1
    simpa using h1
  have k59 : w51.cell? ⟨g, I * 128 + J, none⟩ = some (.int .u8 (u.toNat : Int)) := by rw [hIJ]; exact blk_cell hgh hcq
  have kfr : w51.frozen? ⟨g, I * 128 + J, none⟩ = false := blk_frozen hgh _
  have d1 : (Q : Int).tdiv 128 = (I : Int) := by rw [Int.tdiv_eq_ediv_of_nonneg (by omega)]; omega
  have d2 : (Q : Int).tmod 128 = (J : Int) := by rw [Int.tmod_eq_emod_of_nonneg (by omega)]; omega
  have d3 : (Q : Int) / 128 = (I : Int) := by omega
  have d4 : (Q : Int) % 128 = (J : Int) := by omega
  have d5 : (I : Int) < (n7 : Int) := by omega
  have d6 : (J : Int) < 128 := by omega
  have d7 : IntKind.i64.wrap (I : Int) = I := wrap_small _ (by omega) (by omega)
  have d8 : IntKind.i64.wrap (J : Int) = J := wrap_small _ (by omega) (by omega)
  obtain ⟨V, hV⟩ : ∃ V : UInt8, 1 + y % 255 = (V.toNat : Int) := ⟨u8 (1 + y % 255), by have := u8_toNat (1 + y % 255); omega⟩
  have hx := xor_u8 u V
  rw [← hV] at hx
  have HG := Lib.hid (And.intro hgh (And.intro hgt (And.intro hgs (And.intro hall (And.intro hfl hIJ)))))
  clear hown hgh hgt hgs hall hfl hIJ hcq hu hn7 hQl hI hJ hq hV
  go_region
  obtain ⟨X, hX⟩ : ∃ X, (w51.setCell ⟨g, I * 128 + J, none⟩ (.int .u8 ((u.toNat ^^^ V.toNat : Nat) : Int))).drew = X := ⟨_, rfl⟩
  rw [hX]
  obtain ⟨hgh, hgt, hgs, hall, hfl, hIJ⟩ := HG.out
  have hbX : Below Y.heap.size Y X := by rw [← hX]; exact (hbY.setCell hgb _).drew
  have hxv : ((u.toNat ^^^ V.toNat : Nat) : Int) = (((u ^^^ V).toNat : Nat) : Int) := by rw [UInt8.toNat_xor]
  have hXg : X.heap[g]? = some (.cells (cur.setIfInBounds Q (bv (u ^^^ V))) 40) := by
    rw [← hX, hIJ, hxv]
    exact blk_set hgh Q (bv (u ^^^ V))
  obtain ⟨m, hma, hmn, hmf⟩ := blocks_of n7 (F.flatten.set Q (u ^^^ V)) (by rw [List.length_set]; exact hfl)
  have hsm : Sl X X.heap.size 128 (some ⟨g, 0, none⟩) n7 (bsv m) := by
    rw [bsv_flat, hmf]
    refine ⟨by rw [bvs_len, List.length_set, hfl], fun _ => ⟨g, 0, rfl, (Array.getElem?_eq_some_iff.1 hXg).1, fun j v hj => ?_⟩⟩
    rw [Nat.zero_add]
    refine blk_cell hXg ?_
    have hj2 : j < n7 * 128 := by
      have := (List.getElem?_eq_some_iff.1 hj).1
      rwa [bvs_len, List.length_set, hfl] at this
    have e : (bvs (F.flatten.set Q (u ^^^ V)))= ((cur.toList.set Q (bv (u ^^^ V))).take (n7 * 128)) := by
      rw [List.take_set, hgt]
      simp [bvs, List.map_set]
    rw [e, List.getElem?_take, if_pos hj2] at hj
    rw [← hj, ← Array.getElem?_toList, Array.toList_setIfInBounds]
  have hbat : BAt X X.heap.size (some ⟨g, 0, none⟩) n7 c51 m := ⟨hma, hmn, hsm, hgn⟩
  have hBX := bNext hS.out.2.1 hbX
  clear hX hgh hgt hgs hall hfl hIJ hbX hxv hXg hmf hsm HG k59 kfr d1 d2 d3 d4 d5 d6 d7 d8 hx hS hIn hJn q0 q1 f4 hgm hgn hgb hbY
  have hbd := body_any X hbat (by omega)
  unfold BodP at hbd
  have HB := Lib.hid (And.intro hbat hBX)
  clear hbat hBX hma hmn
  cases hi : isO m
  · rw [show kindOf m = 0 from by unfold kindOf; rw [hi]; rfl, show bodyOf m = [] from by unfold bodyOf; rw [hi]; rfl, show bodyE m = 11 from by unfold bodyE; rw [hi]; rfl] at hbd
    clear hi
    go_wp2_with fail
    refine Calls.mono hbd ?_
    rintro e Z ⟨A13, n13, c13, rfl, hn13, -, -, -, hbZ⟩
    replace hn13 : n13 = 0 := hn13
    subst hn13
    clear hbd
    go_wp2_with (first
      | (go_at_call 13; refine Calls.mono (wakes03_any _) ?_; rintro e W4 ⟨rfl, hb4⟩)
      | fail)
    go_ret
    exact Ret.mk rfl (bNext (bNext HB.out.2 hbZ) hb4)
  · obtain ⟨⟨-, h2⟩, h3, h4⟩ := isO_iff.1 hi
    have hbl := obBody_len h2
    rw [show kindOf m = obKind m from by unfold kindOf; rw [hi]; rfl, show bodyOf m = obBody m from by unfold bodyOf; rw [hi]; rfl, show bodyE m = 0 from by unfold bodyE; rw [hi]; rfl] at hbd
    clear hi
    go_wp2_with fail
    refine Calls.mono hbd ?_
    rintro e Z ⟨A13, n13, c13, rfl, hn13, hnc13, -, hs13, hbZ⟩
    have hfz := frame_any (kind := obKind m) (c := c13) hn13.symm Z hs13 (Nat.le_refl _)
    rw [h4, hn13, hbl, show frameE (obKind m) (obN m) = 0 from by unfold frameE; rw [h3]; rfl] at hfz
    replace hn13 := hn13.trans hbl
    subst hn13
    have hbat := HB.out.1.nxt hbZ
    have hBZ := bNext HB.out.2 hbZ
    have HZ := Lib.hid (And.intro hbat hBZ)
    clear hbd hs13 hbZ h2 h3 h4 hbl hbat hBZ HB
    go_wp2_with fail
    refine Calls.mono hfz ?_
    rintro e Z2 ⟨A15, n15, c15, rfl, hn15, hnc15, hcm15, hs15, hbZ2⟩
    clear hfz
    have hbm := HZ.out.1.nxt hbZ2
    have hq := keepb_any (c := c15) Z2 (BAt.mk hbm.all hn15.symm hs15 hnc15) hbm (Nat.le_refl _) (Nat.le_refl _) (by have := hbm.len; omega)
    rw [decide_eq_true rfl] at hq
    have hBZ2 := bNext HZ.out.2 hbZ2
    have HY2 := Lib.hid hBZ2
    clear hbm hn15 hs15 hbZ2 hBZ2 HZ
    go_wp2_with (first
      | (go_at_call 18; go_loud (with_reducible refine Calls.mono hq ?_); clear hq; rintro e W3 ⟨rfl, hb3⟩)
      | (go_at_call 13; refine Calls.mono (wakes03_any _) ?_; rintro e W4 ⟨rfl, hb4⟩)
      | fail)
    go_ret
    exact Ret.mk rfl (bNext (bNext HY2.out hb3) hb4)
set_option maxRecDepth 100000 in
theorem objectTurns_walk {H : Type} {enc : TypeId × Value → H} {W : World} {base : Nat} {v0 v1 v2 : Value} {d0 d1 d2 : DataW H} {p0 p1 p2 : List MemPlace}
    (k0 : Value.okWide Try.prog W .any base 5 v0) (h0 : DataW.Trod enc Try.prog W 0 (fun _ => true) true 5 v0 d0 p0)
    (k1 : Value.okWide Try.prog W .any base 22 v1) (h1 : DataW.Trod enc Try.prog W 0 (fun _ => true) true 22 v1 d1 p1)
    (k2 : Value.okWide Try.prog W .any base 45 v2) (h2 : DataW.Trod enc Try.prog W 0 (fun _ => true) true 45 v2 d2 p2)
    : Calls Try.prog 5 #[v0, v1, v2] W fun e W' => e = .returned (.bool true) ∧ Below W.heap.size W W' := by
  obtain ⟨za, rfl, _, _, wa⟩ := open_int Try.underlying5 k0 h0
  obtain ⟨A0, n0, c0, b, rfl, hl, hn0, hc0, -, hsl⟩ := open_bytes_sl Try.underlying22 Try.underlying5 (by kernel_rfl) k1 h1
  obtain ⟨l, hll, rfl, hw⟩ := open_ints_arr Try.underlying45 Try.underlying44 (by kernel_rfl) (by kernel_rfl) k2 h2
  match l, hll with
  | [x, y], _ =>
    have hx := wf_u16 (hw x (by simp))
    have hy := wf_u16 (hw y (by simp))
    have ha := wf_u8 wa
    by_cases h : 1000 < n0
    · exact big_turns W h
    · exact turns_core ha.1 (by omega) hx.1 (by omega) hy.1 (by omega) W hsl hl (by omega)
end Go.Proofs.Ythmjkgpfnpdddaa
