/- The walk over DecodeLog. -/
import Derived.Test.YtjfkaebikmnnaaaRevCol
namespace Go.Proofs.Ytjfkaebikmnnaaa
set_option linter.unusedSimpArgs false
set_option linter.unusedVariables false
open Go.RowKit Go.Sort

def LDec (w : World) (b : List UInt8) (e : Ending) (w' : World) : Prop :=
  ∃ A n c, e = .returned (.tuple #[lgv (nextOf b) A n c, .int .i64 (erF (isL b))]) ∧ LgAt w' w'.heap.size A n c (logOf b) ∧ c ≤ maxLen ∧ Below w.heap.size w w'
theorem LgAt.nil (w : World) (B : Nat) : LgAt w B none 0 0 [] := ⟨by simp, rfl, Sl.nil, Nat.le_refl _⟩
theorem isL_no {b : List UInt8} (h : b.length < 3 ∨ b.length ≠ 3 + (at8 b 2).toNat * 34) : isL b = false := by
  unfold isL
  rw [decide_eq_false (by omega)]; rfl
theorem ldec_no {w w' : World} {b : List UInt8} (h : isL b = false) (hB : Below w.heap.size w w') : LDec w b (.returned (.tuple #[.agg #[.int .i64 0, .slice none 0 0], .int .i64 11])) w' := by
  refine ⟨none, 0, 0, ?_, ?_, by simp [maxLen], hB⟩
  · unfold nextOf erF lgv; rw [h]; rfl
  · unfold logOf; rw [h]; exact LgAt.nil _ _
theorem lgZ : ZeroIs Try.prog 46 #[.int .i64 0, .slice none 0 0] := by unfold ZeroIs; kernel_rfl
theorem built_lg0 : Try.prog.built 46 [] = some #[.int .i64 0, .slice none 0 0] := by kernel_rfl
theorem one_lg (a : Int) (A : Option Addr) (n c : Nat) : (#[Value.int .i64 a, .slice A n c] : Array Value).all (·.oneCell') = true := by simp [Value.oneCell']

set_option maxHeartbeats 4000000 in
set_option maxRecDepth 100000 in
theorem ldec_short {A : Option Addr} {n c B : Nat} {l : List UInt8} (w : World) (hs : Sl w B 1 A n (bvs l)) (hB : B ≤ w.heap.size) (hm : n ≤ maxLen) (h : n < 3 ∨ n ≠ 3 + (at8 l 2).toNat * 34) : Calls Try.prog 26 #[.slice A n c] w (LDec w l) := by
  have hl : l.length = n := by have := hs.len; rw [bvs_len] at this; omega
  have hno := isL_no (b := l) (by rw [hl]; exact h)
  have HNO := Lib.hid hno
  clear hno
  unfold maxLen at hm
  by_cases h3 : n < 3
  · have i3 : (n : Int) < 3 := by omega
    clear hs h hl
    go_enter Try.func26, Try.ntmps26
    go_wp2_with fail
    refine bodyPost_ret (by simp [results, Try.results26, Act.put, go_sem]; try rfl) rfl ?_
    exact ldec_no HNO.out (by repeat (first | (with_reducible exact Below.refl _ _) | (with_reducible refine bDrewN ?_ _) | (with_reducible refine Below.drew ?_) | (with_reducible refine Below.alloc ?_ ?_ _) | (with_reducible refine Below.setCell ?_ ?_ _) | (with_reducible assumption) | go_size))
  · obtain ⟨b, o, rfl, hb, hr⟩ := hs.at_ (by omega)
    have k2 := hs.cellAt rfl (i := 2) (by omega)
    have l2 := (at8 l 2).toNat_lt
    have g2 : 2 < n := by omega
    have hbw : b < w.heap.size := by omega
    have hne : n ≠ 3 + (at8 l 2).toNat * 34 := by omega
    generalize (at8 l 2).toNat = X at *
    have i3 : ¬ (n : Int) < 3 := by omega
    have i4 : (n : Int) - 3 ≠ (X : Int) * 34 := by omega
    have i5 : (n : Int) ≠ 3 + 34 * (X : Int) := by omega
    have i6 : (n : Int) ≠ 34 * (X : Int) + 3 := by omega
    clear hs h hl hr
    go_enter Try.func26, Try.ntmps26
    go_wp2_with fail
    refine bodyPost_ret (by simp [results, Try.results26, Act.put, go_sem]; try rfl) rfl ?_
    exact ldec_no HNO.out (by repeat (first | (with_reducible exact Below.refl _ _) | (with_reducible refine bDrewN ?_ _) | (with_reducible refine Below.drew ?_) | (with_reducible refine Below.alloc ?_ ?_ _) | (with_reducible refine Below.setCell ?_ ?_ _) | (with_reducible assumption) | go_size))

set_option maxHeartbeats 4000000 in
set_option maxRecDepth 100000 in
theorem rldec_short {A : Option Addr} {n c B : Nat} {l : List UInt8} (w : World) (hs : Sl w B 1 A n (bvs l)) (hB : B ≤ w.heap.size) (hm : n ≤ maxLen) (h : n < 3 ∨ n ≠ 3 + (at8 l 2).toNat * 34) : Calls Try.prog 27 #[.slice A n c] w (LDec w l) := by
  have hl : l.length = n := by have := hs.len; rw [bvs_len] at this; omega
  have hno := isL_no (b := l) (by rw [hl]; exact h)
  have HNO := Lib.hid hno
  clear hno
  unfold maxLen at hm
  by_cases h3 : n < 3
  · have i3 : (n : Int) < 3 := by omega
    clear hs h hl
    go_enter Try.func27, Try.ntmps27
    go_wp2_with fail
    refine bodyPost_ret (by simp [results, Try.results27, Act.put, go_sem]; try rfl) rfl ?_
    exact ldec_no HNO.out (by repeat (first | (with_reducible exact Below.refl _ _) | (with_reducible refine bDrewN ?_ _) | (with_reducible refine Below.drew ?_) | (with_reducible refine Below.alloc ?_ ?_ _) | (with_reducible refine Below.setCell ?_ ?_ _) | (with_reducible assumption) | go_size))
  · obtain ⟨b, o, rfl, hb, hr⟩ := hs.at_ (by omega)
    have k2 := hs.cellAt rfl (i := 2) (by omega)
    have l2 := (at8 l 2).toNat_lt
    have g2 : 2 < n := by omega
    have hbw : b < w.heap.size := by omega
    have hne : n ≠ 3 + (at8 l 2).toNat * 34 := by omega
    generalize (at8 l 2).toNat = X at *
    have i3 : ¬ (n : Int) < 3 := by omega
    have i4 : (n : Int) - 3 ≠ (X : Int) * 34 := by omega
    have i5 : (n : Int) ≠ 3 + 34 * (X : Int) := by omega
    have i6 : (n : Int) ≠ 34 * (X : Int) + 3 := by omega
    clear hs h hl hr
    go_enter Try.func27, Try.ntmps27
    go_wp2_with fail
    refine bodyPost_ret (by simp [results, Try.results27, Act.put, go_sem]; try rfl) rfl ?_
    exact ldec_no HNO.out (by repeat (first | (with_reducible exact Below.refl _ _) | (with_reducible refine bDrewN ?_ _) | (with_reducible refine Below.drew ?_) | (with_reducible refine Below.alloc ?_ ?_ _) | (with_reducible refine Below.setCell ?_ ?_ _) | (with_reducible assumption) | go_size))

set_option maxHeartbeats 16000000 in
set_option maxRecDepth 100000 in
theorem ldec_full {b o n c B cnt : Nat} {l : List UInt8} (w : World) (hn : n = 3 + cnt * 34) (hcnt : (at8 l 2).toNat = cnt) (hs : Sl w B 1 (some ⟨b, o, none⟩) n (bvs l)) (hB : B ≤ w.heap.size) (hnc : n ≤ c) (hcm : c ≤ maxLen) : Calls Try.prog 26 #[.slice (some ⟨b, o, none⟩) n c] w (LDec w l) := by
  have hl : l.length = n := by have := hs.len; rw [bvs_len] at this; omega
  obtain ⟨b', o', e, hb, hr⟩ := hs.at_ (by omega)
  simp only [Option.some.injEq, Addr.mk.injEq, and_true] at e
  obtain ⟨rfl, rfl⟩ := e
  have k2 := hs.cellAt rfl (i := 2) (by omega)
  have l2 := (at8 l 2).toNat_lt
  rw [hcnt] at k2 l2
  have hbw : b < w.heap.size := by omega
  have hok : ∀ y ∈ decL l, y.Ok := by
    intro y hy
    unfold decL at hy
    rw [hcnt, ← entL_dec] at hy
    obtain ⟨z, -, rfl⟩ := List.mem_map.1 hy
    exact entE_ok (cnt := cnt) (by rw [List.length_drop]; omega) z.2
  have hdl : (decL l).length = cnt := by unfold decL; rw [List.length_map, List.length_range, hcnt]
  have hL : isL l = goodL (n16 l 0) (decL l) := by unfold isL; rw [decide_eq_true ⟨by omega, by rw [hcnt, hl, hn]⟩]; rfl
  obtain ⟨next, hnx⟩ : ∃ z : Int, ((n16 l 0 : Nat) : Int) = z := ⟨_, rfl⟩
  have hN : Hid (nextOf l = if isL l then next else 0) := Lib.hid (by unfold nextOf; rw [hnx])
  have hO : Hid (logOf l = if isL l then decL l else []) := Lib.hid rfl
  have hent : entL (l.drop 3) (List.finRange cnt) = decL l := by unfold decL; rw [hcnt]; exact entL_dec cnt
  rw [hnx] at hL
  have ht1 := fun (X : World) (hX : Below w.heap.size w X) => two_any (c := c) X (hs.below (hX.mono hB)) (by omega)
  rw [hnx] at ht1
  obtain ⟨o3, ho3⟩ : ∃ q, (if c = 3 then o else o + 3) = q := ⟨_, rfl⟩
  have hea : (if c = 3 then (some ⟨b, o, none⟩ : Option Addr) else some ⟨b, o + 3, none⟩) = some ⟨b, o3, none⟩ := by rw [← ho3]; split <;> rfl
  have hr3 : w.rangeAt b o3 (bvs (l.drop 3)) := by
    rw [← ho3]
    split
    · have : l.drop 3 = [] := List.drop_of_length_le (by omega)
      rw [this]; exact range_nil _ _ _
    · have := range_cut hr 3 (n - 3)
      rwa [show ((bvs l).drop 3).take (n - 3) = bvs (l.drop 3) from by rw [List.take_of_length_le (by rw [List.length_drop, bvs_len, hl]; omega)]; simp [bvs, List.map_drop]] at this
  have htc := fun (X : World) (hX : Below w.heap.size w X) (BX : Nat) (hlt : BX < X.heap.size) (hc : X.cell? ⟨BX, 0, none⟩ = some (.slice (some ⟨b, o3, none⟩) (cnt * 34) (c - 3))) =>
    collect_any (l := l.drop 3) (cnt := cnt) (by rw [List.length_drop]; omega) (by omega) (by omega) (by omega) hlt (by have := hX.size; omega) hc (bRange hX hbw hr3)
  rw [hent] at htc
  clear hent ho3 hnx hr3 hr hs hcnt
  generalize decL l = L at *
  have i1 : ¬ (n : Int) < 3 := by omega
  have i2 : ((n : Int) - 3 != (cnt : Int) * 34) = false := by rw [show (n : Int) - 3 = (cnt : Int) * 34 by omega]; simp
  have i3 : (n : Int) - 3 = (cnt : Int) * 34 := by omega
  have i4 : n - 3 = cnt * 34 := by omega
  have i5 : (3 : Int) ≤ (n : Int) := by omega
  have i6 : (n : Int) ≤ (c : Int) := by omega
  have i7 : 2 < n := by omega
  have hz := lgZ
  have HN2 := Lib.hid hn
  unfold maxLen at hcm
  clear hn
  go_enter Try.func26, Try.ntmps26
  go_upto_region 3 with (fail)
  obtain ⟨W, hW⟩ : ∃ W, w.alloc (.cells #[.int .i64 0, .slice none 0 0] 46) = W := ⟨_, rfl⟩
  try rw [hW]
  have a2 : W.heap[w.heap.size]? = some (.cells #[.int .i64 0, .slice none 0 0] 46) := by rw [← hW]; exact heap_alloc_new _ _
  have hBW : Below w.heap.size w W := by rw [← hW]; exact (Below.refl _ _).alloc (Nat.le_refl _) _
  have hzW : w.heap.size < W.heap.size := by rw [← hW]; simp
  clear hW
  go_cut [4] from 22 to 28 (fun s4 wx => ∃ G A c', s4 = .pointer (some ⟨G, 0, none⟩) ∧ W.heap.size ≤ G ∧ wx.heap[G]? = some (.cells #[.int .i64 next, .slice A cnt c'] 46) ∧ wx.ownsRow W.heap.size 66 33 (.slice A cnt c') cnt (les L) ∧ Below W.heap.size W wx)
  case first =>
    let S : World → Prop := fun w' => Below W.heap.size W w'
    have t1 := fun w' (h : S w') => ht1 w' (hBW.trans (Below.mono h (by omega)))
    have tc := fun w' (h : S w') => htc w' (hBW.trans (Below.mono h (by omega)))
    have hS0 : S W.drew := (Below.refl _ _).drew
    clear ht1 htc a2 k2 i1 i2 i3
    refine wp_region_held (S := S) (by kernel_rfl) ?_
    change wpAnyH _ _ _ _ S _ _ _ W.drew
    refine wpAnyH_take (i := 0) (oi := ?oi_51) (v := ?v_51) ?ho_51 ?h1_51 ?h2_51 ?h3_51 ?hq_51 (Or.inl ⟨?hw_51, ?hy_51⟩) ?hs_51 ?rest_51; (case h2_51 => kernel_rfl); (case h3_51 => kernel_rfl); (case ho_51 => (simp only [List.getElem?_toArray, List.getElem?_cons_zero, List.getElem?_cons_succ]; rfl)); (case h1_51 => kernel_rfl); (case hq_51 => exact fun _ _ _ h => h); (case hw_51 => rfl); (case hy_51 => (intro w' hSw; (try simp only [S] at hSw); go_simp; (try with_reducible rfl))); (case hs_51 => assumption); (try simp only [Act.put, List.setIfInBounds_toArray, List.set_cons_zero, List.set_cons_succ])
    refine wpAnyH_take (i := 2) (oi := ?oi_52) (v := ?v_52) ?ho_52 ?h1_52 ?h2_52 ?h3_52 ?hq_52 (Or.inl ⟨?hw_52, ?hy_52⟩) ?hs_52 ?rest_52; (case h2_52 => kernel_rfl); (case h3_52 => kernel_rfl); (case ho_52 => (simp only [List.getElem?_toArray, List.getElem?_cons_zero, List.getElem?_cons_succ]; rfl)); (case h1_52 => kernel_rfl); (case hq_52 => exact fun _ _ _ h => h); (case hw_52 => rfl); (case hy_52 => (intro w' hSw; (try simp only [S] at hSw); go_simp; (try with_reducible rfl))); (case hs_52 => assumption); (try simp only [Act.put, List.setIfInBounds_toArray, List.set_cons_zero, List.set_cons_succ])
    refine wpAnyH_take (i := 3) (oi := ?oi_53) (v := ?v_53) ?ho_53 ?h1_53 ?h2_53 ?h3_53 ?hq_53 (Or.inl ⟨?hw_53, ?hy_53⟩) ?hs_53 ?rest_53; (case h2_53 => kernel_rfl); (case h3_53 => kernel_rfl); (case ho_53 => (simp only [List.getElem?_toArray, List.getElem?_cons_zero, List.getElem?_cons_succ]; rfl)); (case h1_53 => kernel_rfl); (case hq_53 => exact fun _ _ _ h => h); (case hw_53 => rfl); (case hy_53 => (intro w' hSw; (try simp only [S] at hSw); go_simp; (try with_reducible rfl))); (case hs_53 => assumption); (try simp only [Act.put, List.setIfInBounds_toArray, List.set_cons_zero, List.set_cons_succ])
    refine wpAnyH_ready (rs := [1, 7]) (by kernel_rfl) (by simp) (AllReadyH.cons (o := ?oo1_58) ?hoo1_58 (fun K hK => ?stepY1) (AllReadyH.cons (o := ?oo7_58) ?hoo7_58 (fun K hK => ?stepY7) AllReadyH.nil)); (case hoo1_58 => (simp only [List.getElem?_toArray, List.getElem?_cons_zero, List.getElem?_cons_succ]; rfl)); (case hoo7_58 => (simp only [List.getElem?_toArray, List.getElem?_cons_zero, List.getElem?_cons_succ]; rfl))
    case stepY1 =>
      go_simp
      refine Calls.mono (t1 _ hS0) ?_
      rintro e v1 ⟨rfl, kv1, hkv1⟩
      have hbv1 : Below W.drew.heap.size W.drew v1 := by rw [hkv1]; exact bDrewN (Below.refl _ _) _
      clear hkv1
      have hv1 : S v1 := Below.trans hS0 (Below.mono hbv1 (Below.size hS0))
      refine hK.out _ _ hv1 (fun _ => ?_)
      clear hK K
      (try simp only [Act.put, List.setIfInBounds_toArray, List.set_cons_zero, List.set_cons_succ])
      refine wpAnyH_ready (rs := [4, 7]) (by kernel_rfl) (by simp) (AllReadyH.cons (o := ?oo4_59) ?hoo4_59 (fun K hK => ?stepZ4) (AllReadyH.cons (o := ?oo7_59) ?hoo7_59 (fun K hK => ?stepZ7) AllReadyH.nil)); (case hoo4_59 => (simp only [List.getElem?_toArray, List.getElem?_cons_zero, List.getElem?_cons_succ]; rfl)); (case hoo7_59 => (simp only [List.getElem?_toArray, List.getElem?_cons_zero, List.getElem?_cons_succ]; rfl))
      case stepZ4 =>
        go_simp
        refine Calls.mono (entries_any _ _ _ _) ?_
        rintro e v2 ⟨rfl, hkv2⟩
        have hbv2 : Below v1.heap.size v1 v2 := by rw [← hkv2]; exact (Below.refl _ _).alloc (Nat.le_refl _) _
        have bxv2 : v2.cell? ⟨v1.heap.size, 0, none⟩ = some (.slice (some ⟨b, o3, none⟩) (cnt * 34) (c - 3)) := by rw [← hkv2]; exact blk_cell (heap_alloc_new _ _) rfl
        have lxv2 : v1.heap.size < v2.heap.size := by rw [← hkv2]; simp
        clear hkv2
        have hv2 : S v2 := Below.trans hv1 (Below.mono hbv2 (Below.size hv1))
        refine hK.out _ _ hv2 (fun _ => ?_)
        clear hK K
        (try simp only [Act.put, List.setIfInBounds_toArray, List.set_cons_zero, List.set_cons_succ])
        refine wpAnyH_ready (rs := [5, 7]) (by kernel_rfl) (by simp) (AllReadyH.cons (o := ?oo5_60) ?hoo5_60 (fun K hK => ?stepV5) (AllReadyH.cons (o := ?oo7_60) ?hoo7_60 (fun K hK => ?stepV7) AllReadyH.nil)); (case hoo5_60 => (simp only [List.getElem?_toArray, List.getElem?_cons_zero, List.getElem?_cons_succ]; rfl)); (case hoo7_60 => (simp only [List.getElem?_toArray, List.getElem?_cons_zero, List.getElem?_cons_succ]; rfl))
        case stepV5 =>
          go_simp
          refine Calls.mono (tc _ hv2 _ lxv2 bxv2) ?_
          rintro e v3 ⟨Av3, cv3, rfl, ownv3, hbv3⟩
          have bxv3 := (hbv3.cell (p := ⟨v1.heap.size, 0, none⟩) lxv2).trans bxv2
          have lxv3 : v1.heap.size < v3.heap.size := Nat.lt_of_lt_of_le lxv2 hbv3.size
          have hv3 : S v3 := Below.trans hv2 (Below.mono hbv3 (Below.size hv2))
          refine hK.out _ _ hv3 (fun _ => ?_)
          clear hK K
          (try simp only [Act.put, List.setIfInBounds_toArray, List.set_cons_zero, List.set_cons_succ])
          refine wpAnyH_take (i := 6) (oi := ?oi_54) (v := ?v_54) ?ho_54 ?h1_54 ?h2_54 ?h3_54 ?hq_54 (Or.inl ⟨?hw_54, ?hy_54⟩) ?hs_54 ?rest_54; (case h2_54 => kernel_rfl); (case h3_54 => kernel_rfl); (case ho_54 => (simp only [List.getElem?_toArray, List.getElem?_cons_zero, List.getElem?_cons_succ]; rfl)); (case h1_54 => kernel_rfl); (case hq_54 => exact fun _ _ _ h => h); (case hw_54 => rfl); (case hy_54 => (intro w' hSw; refine exec_built (t := 46) (cs := #[.int .i64 next, .slice Av3 cnt cv3]) (parts := #[(0, .tmp 23), (1, .tmp 27)]) ?_ ?_ w'; exact rfl; simp only [List.map_toArray, List.map_cons, List.map_nil]; exact built_lg next Av3 cnt cv3)); (case hs_54 => assumption); (try simp only [Act.put, List.setIfInBounds_toArray, List.set_cons_zero, List.set_cons_succ])
          refine wpAnyH_ready (rs := [7]) (by kernel_rfl) (by simp) (AllReadyH.cons (o := ?oo7_61) ?hoo7_61 (fun K hK => ?steponly61) AllReadyH.nil); (case hoo7_61 => (simp only [List.getElem?_toArray, List.getElem?_cons_zero, List.getElem?_cons_succ]; rfl))
          refine step_new rfl hz rfl ?_
          obtain ⟨v4, hkv4⟩ : ∃ X, v3.alloc (.cells #[.int .i64 0, .slice none 0 0] 46) = X := ⟨_, rfl⟩
          rw [hkv4]
          have hbv4 : Below v3.heap.size v3 v4 := by rw [← hkv4]; exact (Below.refl _ _).alloc (Nat.le_refl _) _
          have gv4 : v4.heap[v3.heap.size]? = some (.cells #[.int .i64 0, .slice none 0 0] 46) := by rw [← hkv4]; exact heap_alloc_new _ _
          clear hkv4
          have bxv4 := (hbv4.cell (p := ⟨v1.heap.size, 0, none⟩) lxv3).trans bxv3
          have lxv4 : v1.heap.size < v4.heap.size := Nat.lt_of_lt_of_le lxv3 hbv4.size
          have ownv4 := own_below ownv3 hbv4
          have ogv4 : ∀ k, (Value.slice Av3 cnt cv3).ownBlock = some k → k ≠ v3.heap.size := fun k e => by have := (ownv3.lt k e).2; omega
          have hv4 : S v4 := Below.trans hv3 (Below.mono hbv4 (Below.size hv3))
          refine hK.out _ _ hv4 (fun _ => ?_)
          clear hK K
          (try simp only [Act.put, List.setIfInBounds_toArray, List.set_cons_zero, List.set_cons_succ])
          refine wpAnyH_ready (rs := [8]) (by kernel_rfl) (by simp) (AllReadyH.cons (o := ?oo8_62) ?hoo8_62 (fun K hK => ?steponly62) AllReadyH.nil); (case hoo8_62 => (simp only [List.getElem?_toArray, List.getElem?_cons_zero, List.getElem?_cons_succ]; rfl))
          refine step_row rfl 46 (.tmp 4) (.tmp 28) rfl _ #[.int .i64 next, .slice Av3 cnt cv3] rfl rfl _ #[.int .i64 0, .slice none 0 0] gv4 (lg_info _ _) rfl (one_lg _ _ _ _) ?_
          have hle : W.heap.size ≤ v3.heap.size := by have := Below.size hv3; (try exact this); (try exact Nat.le_refl _)
          have hfS : S (v4.setRow (v3.heap.size) #[.int .i64 next, .slice Av3 cnt cv3]) := bSetRow hv4 hle _
          refine hK.out _ _ hfS (fun _ => ?_)
          clear hK K
          (try simp only [Act.put, List.setIfInBounds_toArray, List.set_cons_zero, List.set_cons_succ])
          refine wpAnyH_done (by kernel_rfl) ?_ _
          go_wp2_with fail
          go_meet
          case rel => exact ⟨_, _, _, rfl, hle, setRow_heap _ _ _ _ _ _ gv4, own_setRow (own_base ownv4 (Below.size hv2)) ogv4 _, hfS⟩
        case stepV7 =>
          refine step_new rfl hz rfl ?_
          obtain ⟨vq3, hkvq3⟩ : ∃ X, v2.alloc (.cells #[.int .i64 0, .slice none 0 0] 46) = X := ⟨_, rfl⟩
          rw [hkvq3]
          have hbvq3 : Below v2.heap.size v2 vq3 := by rw [← hkvq3]; exact (Below.refl _ _).alloc (Nat.le_refl _) _
          have gvq3 : vq3.heap[v2.heap.size]? = some (.cells #[.int .i64 0, .slice none 0 0] 46) := by rw [← hkvq3]; exact heap_alloc_new _ _
          clear hkvq3
          have bxvq3 := (hbvq3.cell (p := ⟨v1.heap.size, 0, none⟩) lxv2).trans bxv2
          have lxvq3 : v1.heap.size < vq3.heap.size := Nat.lt_of_lt_of_le lxv2 hbvq3.size
          have hvq3 : S vq3 := Below.trans hv2 (Below.mono hbvq3 (Below.size hv2))
          refine hK.out _ _ hvq3 (fun _ => ?_)
          clear hK K
          (try simp only [Act.put, List.setIfInBounds_toArray, List.set_cons_zero, List.set_cons_succ])
          refine wpAnyH_ready (rs := [5]) (by kernel_rfl) (by simp) (AllReadyH.cons (o := ?oo5_63) ?hoo5_63 (fun K hK => ?steponly63) AllReadyH.nil); (case hoo5_63 => (simp only [List.getElem?_toArray, List.getElem?_cons_zero, List.getElem?_cons_succ]; rfl))
          go_simp
          refine Calls.mono (tc _ hvq3 _ lxvq3 bxvq3) ?_
          rintro e vq4 ⟨Avq4, cvq4, rfl, ownvq4, hbvq4⟩
          have ogvq4 : ∀ k, (Value.slice Avq4 cnt cvq4).ownBlock = some k → k ≠ v2.heap.size := fun k e => by have := (ownvq4.lt k e).1; have := (Array.getElem?_eq_some_iff.1 gvq3).1; omega
          have bxvq4 := (hbvq4.cell (p := ⟨v1.heap.size, 0, none⟩) lxvq3).trans bxvq3
          have lxvq4 : v1.heap.size < vq4.heap.size := Nat.lt_of_lt_of_le lxvq3 hbvq4.size
          have gvq4 := bBlk hbvq4 (Array.getElem?_eq_some_iff.1 gvq3).1 gvq3
          have hvq4 : S vq4 := Below.trans hvq3 (Below.mono hbvq4 (Below.size hvq3))
          refine hK.out _ _ hvq4 (fun _ => ?_)
          clear hK K
          (try simp only [Act.put, List.setIfInBounds_toArray, List.set_cons_zero, List.set_cons_succ])
          refine wpAnyH_take (i := 6) (oi := ?oi_55) (v := ?v_55) ?ho_55 ?h1_55 ?h2_55 ?h3_55 ?hq_55 (Or.inl ⟨?hw_55, ?hy_55⟩) ?hs_55 ?rest_55; (case h2_55 => kernel_rfl); (case h3_55 => kernel_rfl); (case ho_55 => (simp only [List.getElem?_toArray, List.getElem?_cons_zero, List.getElem?_cons_succ]; rfl)); (case h1_55 => kernel_rfl); (case hq_55 => exact fun _ _ _ h => h); (case hw_55 => rfl); (case hy_55 => (intro w' hSw; refine exec_built (t := 46) (cs := #[.int .i64 next, .slice Avq4 cnt cvq4]) (parts := #[(0, .tmp 23), (1, .tmp 27)]) ?_ ?_ w'; exact rfl; simp only [List.map_toArray, List.map_cons, List.map_nil]; exact built_lg next Avq4 cnt cvq4)); (case hs_55 => assumption); (try simp only [Act.put, List.setIfInBounds_toArray, List.set_cons_zero, List.set_cons_succ])
          refine wpAnyH_ready (rs := [8]) (by kernel_rfl) (by simp) (AllReadyH.cons (o := ?oo8_64) ?hoo8_64 (fun K hK => ?steponly64) AllReadyH.nil); (case hoo8_64 => (simp only [List.getElem?_toArray, List.getElem?_cons_zero, List.getElem?_cons_succ]; rfl))
          refine step_row rfl 46 (.tmp 4) (.tmp 28) rfl _ #[.int .i64 next, .slice Avq4 cnt cvq4] rfl rfl _ #[.int .i64 0, .slice none 0 0] gvq4 (lg_info _ _) rfl (one_lg _ _ _ _) ?_
          have hle : W.heap.size ≤ v2.heap.size := by have := Below.size hv2; (try exact this); (try exact Nat.le_refl _)
          have hfS : S (vq4.setRow (v2.heap.size) #[.int .i64 next, .slice Avq4 cnt cvq4]) := bSetRow hvq4 hle _
          refine hK.out _ _ hfS (fun _ => ?_)
          clear hK K
          (try simp only [Act.put, List.setIfInBounds_toArray, List.set_cons_zero, List.set_cons_succ])
          refine wpAnyH_done (by kernel_rfl) ?_ _
          go_wp2_with fail
          go_meet
          case rel => exact ⟨_, _, _, rfl, hle, setRow_heap _ _ _ _ _ _ gvq4, own_setRow (own_base ownvq4 (Below.size hvq3)) ogvq4 _, hfS⟩
      case stepZ7 =>
        refine step_new rfl hz rfl ?_
        obtain ⟨vq2, hkvq2⟩ : ∃ X, v1.alloc (.cells #[.int .i64 0, .slice none 0 0] 46) = X := ⟨_, rfl⟩
        rw [hkvq2]
        have hbvq2 : Below v1.heap.size v1 vq2 := by rw [← hkvq2]; exact (Below.refl _ _).alloc (Nat.le_refl _) _
        have gvq2 : vq2.heap[v1.heap.size]? = some (.cells #[.int .i64 0, .slice none 0 0] 46) := by rw [← hkvq2]; exact heap_alloc_new _ _
        clear hkvq2
        have hvq2 : S vq2 := Below.trans hv1 (Below.mono hbvq2 (Below.size hv1))
        refine hK.out _ _ hvq2 (fun _ => ?_)
        clear hK K
        (try simp only [Act.put, List.setIfInBounds_toArray, List.set_cons_zero, List.set_cons_succ])
        refine wpAnyH_ready (rs := [4]) (by kernel_rfl) (by simp) (AllReadyH.cons (o := ?oo4_65) ?hoo4_65 (fun K hK => ?steponly65) AllReadyH.nil); (case hoo4_65 => (simp only [List.getElem?_toArray, List.getElem?_cons_zero, List.getElem?_cons_succ]; rfl))
        go_simp
        refine Calls.mono (entries_any _ _ _ _) ?_
        rintro e vq3 ⟨rfl, hkvq3⟩
        have hbvq3 : Below vq2.heap.size vq2 vq3 := by rw [← hkvq3]; exact (Below.refl _ _).alloc (Nat.le_refl _) _
        have bxvq3 : vq3.cell? ⟨vq2.heap.size, 0, none⟩ = some (.slice (some ⟨b, o3, none⟩) (cnt * 34) (c - 3)) := by rw [← hkvq3]; exact blk_cell (heap_alloc_new _ _) rfl
        have lxvq3 : vq2.heap.size < vq3.heap.size := by rw [← hkvq3]; simp
        clear hkvq3
        have gvq3 := bBlk hbvq3 (Array.getElem?_eq_some_iff.1 gvq2).1 gvq2
        have hvq3 : S vq3 := Below.trans hvq2 (Below.mono hbvq3 (Below.size hvq2))
        refine hK.out _ _ hvq3 (fun _ => ?_)
        clear hK K
        (try simp only [Act.put, List.setIfInBounds_toArray, List.set_cons_zero, List.set_cons_succ])
        refine wpAnyH_ready (rs := [5]) (by kernel_rfl) (by simp) (AllReadyH.cons (o := ?oo5_66) ?hoo5_66 (fun K hK => ?steponly66) AllReadyH.nil); (case hoo5_66 => (simp only [List.getElem?_toArray, List.getElem?_cons_zero, List.getElem?_cons_succ]; rfl))
        go_simp
        refine Calls.mono (tc _ hvq3 _ lxvq3 bxvq3) ?_
        rintro e vq4 ⟨Avq4, cvq4, rfl, ownvq4, hbvq4⟩
        have ogvq4 : ∀ k, (Value.slice Avq4 cnt cvq4).ownBlock = some k → k ≠ v1.heap.size := fun k e => by have := (ownvq4.lt k e).1; have := (Array.getElem?_eq_some_iff.1 gvq3).1; omega
        have bxvq4 := (hbvq4.cell (p := ⟨vq2.heap.size, 0, none⟩) lxvq3).trans bxvq3
        have lxvq4 : vq2.heap.size < vq4.heap.size := Nat.lt_of_lt_of_le lxvq3 hbvq4.size
        have gvq4 := bBlk hbvq4 (Array.getElem?_eq_some_iff.1 gvq3).1 gvq3
        have hvq4 : S vq4 := Below.trans hvq3 (Below.mono hbvq4 (Below.size hvq3))
        refine hK.out _ _ hvq4 (fun _ => ?_)
        clear hK K
        (try simp only [Act.put, List.setIfInBounds_toArray, List.set_cons_zero, List.set_cons_succ])
        refine wpAnyH_take (i := 6) (oi := ?oi_56) (v := ?v_56) ?ho_56 ?h1_56 ?h2_56 ?h3_56 ?hq_56 (Or.inl ⟨?hw_56, ?hy_56⟩) ?hs_56 ?rest_56; (case h2_56 => kernel_rfl); (case h3_56 => kernel_rfl); (case ho_56 => (simp only [List.getElem?_toArray, List.getElem?_cons_zero, List.getElem?_cons_succ]; rfl)); (case h1_56 => kernel_rfl); (case hq_56 => exact fun _ _ _ h => h); (case hw_56 => rfl); (case hy_56 => (intro w' hSw; refine exec_built (t := 46) (cs := #[.int .i64 next, .slice Avq4 cnt cvq4]) (parts := #[(0, .tmp 23), (1, .tmp 27)]) ?_ ?_ w'; exact rfl; simp only [List.map_toArray, List.map_cons, List.map_nil]; exact built_lg next Avq4 cnt cvq4)); (case hs_56 => assumption); (try simp only [Act.put, List.setIfInBounds_toArray, List.set_cons_zero, List.set_cons_succ])
        refine wpAnyH_ready (rs := [8]) (by kernel_rfl) (by simp) (AllReadyH.cons (o := ?oo8_67) ?hoo8_67 (fun K hK => ?steponly67) AllReadyH.nil); (case hoo8_67 => (simp only [List.getElem?_toArray, List.getElem?_cons_zero, List.getElem?_cons_succ]; rfl))
        refine step_row rfl 46 (.tmp 4) (.tmp 28) rfl _ #[.int .i64 next, .slice Avq4 cnt cvq4] rfl rfl _ #[.int .i64 0, .slice none 0 0] gvq4 (lg_info _ _) rfl (one_lg _ _ _ _) ?_
        have hle : W.heap.size ≤ v1.heap.size := by have := Below.size hv1; (try exact this); (try exact Nat.le_refl _)
        have hfS : S (vq4.setRow (v1.heap.size) #[.int .i64 next, .slice Avq4 cnt cvq4]) := bSetRow hvq4 hle _
        refine hK.out _ _ hfS (fun _ => ?_)
        clear hK K
        (try simp only [Act.put, List.setIfInBounds_toArray, List.set_cons_zero, List.set_cons_succ])
        refine wpAnyH_done (by kernel_rfl) ?_ _
        go_wp2_with fail
        go_meet
        case rel => exact ⟨_, _, _, rfl, hle, setRow_heap _ _ _ _ _ _ gvq4, own_setRow (own_base ownvq4 (Below.size hvq3)) ogvq4 _, hfS⟩
    case stepY7 =>
      refine step_new rfl hz rfl ?_
      obtain ⟨vq1, hkvq1⟩ : ∃ X, W.drew.alloc (.cells #[.int .i64 0, .slice none 0 0] 46) = X := ⟨_, rfl⟩
      rw [hkvq1]
      have hbvq1 : Below W.drew.heap.size W.drew vq1 := by rw [← hkvq1]; exact (Below.refl _ _).alloc (Nat.le_refl _) _
      have gvq1 : vq1.heap[W.drew.heap.size]? = some (.cells #[.int .i64 0, .slice none 0 0] 46) := by rw [← hkvq1]; exact heap_alloc_new _ _
      clear hkvq1
      have hvq1 : S vq1 := Below.trans hS0 (Below.mono hbvq1 (Below.size hS0))
      refine hK.out _ _ hvq1 (fun _ => ?_)
      clear hK K
      (try simp only [Act.put, List.setIfInBounds_toArray, List.set_cons_zero, List.set_cons_succ])
      refine wpAnyH_ready (rs := [1]) (by kernel_rfl) (by simp) (AllReadyH.cons (o := ?oo1_68) ?hoo1_68 (fun K hK => ?steponly68) AllReadyH.nil); (case hoo1_68 => (simp only [List.getElem?_toArray, List.getElem?_cons_zero, List.getElem?_cons_succ]; rfl))
      go_simp
      refine Calls.mono (t1 _ hvq1) ?_
      rintro e vq2 ⟨rfl, kvq2, hkvq2⟩
      have hbvq2 : Below vq1.heap.size vq1 vq2 := by rw [hkvq2]; exact bDrewN (Below.refl _ _) _
      clear hkvq2
      have gvq2 := bBlk hbvq2 (Array.getElem?_eq_some_iff.1 gvq1).1 gvq1
      have hvq2 : S vq2 := Below.trans hvq1 (Below.mono hbvq2 (Below.size hvq1))
      refine hK.out _ _ hvq2 (fun _ => ?_)
      clear hK K
      (try simp only [Act.put, List.setIfInBounds_toArray, List.set_cons_zero, List.set_cons_succ])
      refine wpAnyH_ready (rs := [4]) (by kernel_rfl) (by simp) (AllReadyH.cons (o := ?oo4_69) ?hoo4_69 (fun K hK => ?steponly69) AllReadyH.nil); (case hoo4_69 => (simp only [List.getElem?_toArray, List.getElem?_cons_zero, List.getElem?_cons_succ]; rfl))
      go_simp
      refine Calls.mono (entries_any _ _ _ _) ?_
      rintro e vq3 ⟨rfl, hkvq3⟩
      have hbvq3 : Below vq2.heap.size vq2 vq3 := by rw [← hkvq3]; exact (Below.refl _ _).alloc (Nat.le_refl _) _
      have bxvq3 : vq3.cell? ⟨vq2.heap.size, 0, none⟩ = some (.slice (some ⟨b, o3, none⟩) (cnt * 34) (c - 3)) := by rw [← hkvq3]; exact blk_cell (heap_alloc_new _ _) rfl
      have lxvq3 : vq2.heap.size < vq3.heap.size := by rw [← hkvq3]; simp
      clear hkvq3
      have gvq3 := bBlk hbvq3 (Array.getElem?_eq_some_iff.1 gvq2).1 gvq2
      have hvq3 : S vq3 := Below.trans hvq2 (Below.mono hbvq3 (Below.size hvq2))
      refine hK.out _ _ hvq3 (fun _ => ?_)
      clear hK K
      (try simp only [Act.put, List.setIfInBounds_toArray, List.set_cons_zero, List.set_cons_succ])
      refine wpAnyH_ready (rs := [5]) (by kernel_rfl) (by simp) (AllReadyH.cons (o := ?oo5_70) ?hoo5_70 (fun K hK => ?steponly70) AllReadyH.nil); (case hoo5_70 => (simp only [List.getElem?_toArray, List.getElem?_cons_zero, List.getElem?_cons_succ]; rfl))
      go_simp
      refine Calls.mono (tc _ hvq3 _ lxvq3 bxvq3) ?_
      rintro e vq4 ⟨Avq4, cvq4, rfl, ownvq4, hbvq4⟩
      have ogvq4 : ∀ k, (Value.slice Avq4 cnt cvq4).ownBlock = some k → k ≠ W.drew.heap.size := fun k e => by have := (ownvq4.lt k e).1; have := (Array.getElem?_eq_some_iff.1 gvq3).1; omega
      have bxvq4 := (hbvq4.cell (p := ⟨vq2.heap.size, 0, none⟩) lxvq3).trans bxvq3
      have lxvq4 : vq2.heap.size < vq4.heap.size := Nat.lt_of_lt_of_le lxvq3 hbvq4.size
      have gvq4 := bBlk hbvq4 (Array.getElem?_eq_some_iff.1 gvq3).1 gvq3
      have hvq4 : S vq4 := Below.trans hvq3 (Below.mono hbvq4 (Below.size hvq3))
      refine hK.out _ _ hvq4 (fun _ => ?_)
      clear hK K
      (try simp only [Act.put, List.setIfInBounds_toArray, List.set_cons_zero, List.set_cons_succ])
      refine wpAnyH_take (i := 6) (oi := ?oi_57) (v := ?v_57) ?ho_57 ?h1_57 ?h2_57 ?h3_57 ?hq_57 (Or.inl ⟨?hw_57, ?hy_57⟩) ?hs_57 ?rest_57; (case h2_57 => kernel_rfl); (case h3_57 => kernel_rfl); (case ho_57 => (simp only [List.getElem?_toArray, List.getElem?_cons_zero, List.getElem?_cons_succ]; rfl)); (case h1_57 => kernel_rfl); (case hq_57 => exact fun _ _ _ h => h); (case hw_57 => rfl); (case hy_57 => (intro w' hSw; refine exec_built (t := 46) (cs := #[.int .i64 next, .slice Avq4 cnt cvq4]) (parts := #[(0, .tmp 23), (1, .tmp 27)]) ?_ ?_ w'; exact rfl; simp only [List.map_toArray, List.map_cons, List.map_nil]; exact built_lg next Avq4 cnt cvq4)); (case hs_57 => assumption); (try simp only [Act.put, List.setIfInBounds_toArray, List.set_cons_zero, List.set_cons_succ])
      refine wpAnyH_ready (rs := [8]) (by kernel_rfl) (by simp) (AllReadyH.cons (o := ?oo8_71) ?hoo8_71 (fun K hK => ?steponly71) AllReadyH.nil); (case hoo8_71 => (simp only [List.getElem?_toArray, List.getElem?_cons_zero, List.getElem?_cons_succ]; rfl))
      refine step_row rfl 46 (.tmp 4) (.tmp 28) rfl _ #[.int .i64 next, .slice Avq4 cnt cvq4] rfl rfl _ #[.int .i64 0, .slice none 0 0] gvq4 (lg_info _ _) rfl (one_lg _ _ _ _) ?_
      have hle : W.heap.size ≤ W.drew.heap.size := by have := Below.size hS0; (try exact this); (try exact Nat.le_refl _)
      have hfS : S (vq4.setRow (W.drew.heap.size) #[.int .i64 next, .slice Avq4 cnt cvq4]) := bSetRow hvq4 hle _
      refine hK.out _ _ hfS (fun _ => ?_)
      clear hK K
      (try simp only [Act.put, List.setIfInBounds_toArray, List.set_cons_zero, List.set_cons_succ])
      refine wpAnyH_done (by kernel_rfl) ?_ _
      go_wp2_with fail
      go_meet
      case rel => exact ⟨_, _, _, rfl, hle, setRow_heap _ _ _ _ _ _ gvq4, own_setRow (own_base ownvq4 (Below.size hvq3)) ogvq4 _, hfS⟩
  case rest =>
    obtain ⟨G, A, c', rfl, hG, g4, hown, hbc⟩ := hcut
    have hBc := hBW.trans (hbc.mono hBW.size)
    have b2 := bBlk hbc hzW a2
    have hLg := LgAt.of_own hok hdl hown
    obtain ⟨A1, c1, e1, hca, hcb⟩ := own_form hown
    simp only [Value.slice.injEq] at e1
    obtain ⟨rfl, -, rfl⟩ := e1
    have hrr := log_any (next := next) wc hLg (Nat.le_refl _)
    unfold lgv EncP at hrr
    have x0 := blk_cell g4 (k := 0) rfl
    have x1 := blk_cell g4 (k := 1) rfl
    have hGlt := (Array.getElem?_eq_some_iff.1 g4).1
    have HK := Lib.hid (And.intro hBc (And.intro b2 (And.intro (And.intro hown (And.intro hok hdl)) (And.intro g4 (And.intro hG hcb)))))
    clear ht1 htc k2 hbw hok hdl hBW hbc hown b2 hLg g4 hBc a2 hea i1 i2 i3 i4 i5 i6 i7 hcb
    go_wp2_with fail
    refine Calls.mono hrr ?_
    rintro e X ⟨A2, n2, cc2, rfl, -, -, -, -, -, hbX⟩
    obtain ⟨hBc, b2, ⟨hown, hok, hdl⟩, g4, hG, hcb⟩ := HK.out
    have y4 := bBlk hbX hGlt g4
    have y2 := bBlk hbX (Array.getElem?_eq_some_iff.1 b2).1 b2
    have hBX := hBc.trans (hbX.mono hBc.size)
    have hownX := own_below hown hbX
    have hfin : ∀ cs, LgAt (X.setRow w.heap.size cs) (X.setRow w.heap.size cs).heap.size A cnt c' L := fun cs => LgAt.of_own hok hdl (own_setRow hownX (fun k e => by have := (hown.lt k e).1; omega) cs)
    obtain ⟨V, hV⟩ : ∃ V, X.setRow w.heap.size #[.int .i64 0, .slice none 0 0] = V := ⟨_, rfl⟩
    have v2 : V.heap[w.heap.size]? = some (.cells #[.int .i64 0, .slice none 0 0] 46) := by rw [← hV]; exact setRow_heap _ _ _ _ _ _ y2
    have hBV : Below w.heap.size w V := by rw [← hV]; exact bSetRow hBX (Nat.le_refl _) _
    obtain ⟨U, hU⟩ : ∃ V, X.setRow w.heap.size #[.int .i64 next, .slice A cnt c'] = V := ⟨_, rfl⟩
    have u2 : U.heap[w.heap.size]? = some (.cells #[.int .i64 next, .slice A cnt c'] 46) := by rw [← hU]; exact setRow_heap _ _ _ _ _ _ y2
    have hBU : Below w.heap.size w U := by rw [← hU]; exact bSetRow hBX (Nat.le_refl _) _
    have hLU := hfin #[.int .i64 next, .slice A cnt c']
    rw [hU] at hLU
    have hldV := run_loadVar_row (P := Try.prog) V _ _ 46 _ _ _ v2 Try.underlying46 rfl (lg_info _ _)
    have hldU := run_loadVar_row (P := Try.prog) U _ _ 46 _ _ _ u2 Try.underlying46 rfl (lg_info _ _)
    obtain ⟨g, hg⟩ : ∃ g, goodL next L = g := ⟨_, rfl⟩
    rw [hg] at hL
    rw [hg]
    have HZ := Lib.hid (And.intro hBV (And.intro hBU (And.intro hLU hcb)))
    have HL := Lib.hid hL
    clear hBV hBU hLU hcb hfin hownX hown hok hdl hBX hbX hBc b2 g4 v2 u2 hg hrr x0 x1 hG hL
    cases g
    · rw [show erF false = 11 from rfl]
      clear hldU hU
      go_wp2_with (first
        | (refine wpList_built rfl 46 #[] rfl (cs := #[.int .i64 0, .slice none 0 0]) (by simp only [List.map_toArray, List.map_nil]; exact built_lg0) ?_)
        | (refine wpList_store_row rfl 46 (.tmp 2) (.tmp 36) rfl _ #[.int .i64 0, .slice none 0 0] rfl rfl _ #[.int .i64 0, .slice none 0 0] y2 (lg_info _ _) rfl (one_lg _ _ _ _) ?_)
        | fail)
      try rw [hV]
      refine bodyPost_ret (by simp [results, Try.results26, Act.put, asAddr, Result.andThen, hldV]; try rfl) rfl ?_
      exact ldec_no HL.out HZ.out.1
    · rw [show erF true = 0 from rfl]
      clear hldV hV
      go_wp2_with (first
        | (refine wpList_load_row rfl 46 (.tmp 4) rfl _ rfl _ #[.int .i64 next, .slice A cnt c'] (0, 0) _ y4 Try.underlying46 rfl (lg_info _ _) ?_)
        | (refine wpList_store_row rfl 46 (.tmp 2) (.tmp 37) rfl _ #[.int .i64 next, .slice A cnt c'] rfl rfl _ #[.int .i64 0, .slice none 0 0] y2 (lg_info _ _) rfl (one_lg _ _ _ _) ?_)
        | fail)
      try rw [hU]
      refine bodyPost_ret (by simp [results, Try.results26, Act.put, asAddr, Result.andThen, hldU]; try rfl) rfl ?_
      refine ⟨A, cnt, c', ?_, ?_, HZ.out.2.2.2, HZ.out.2.1⟩
      · rw [hN.out, HL.out]; rfl
      · rw [hO.out, HL.out]; exact HZ.out.2.2.1
end Go.Proofs.Ytjfkaebikmnnaaa
