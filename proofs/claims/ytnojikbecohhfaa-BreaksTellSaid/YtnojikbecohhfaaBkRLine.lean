/- The walks over the reference's cut and Line (s10/bkrline.py writes it). -/
import Derived.Test.YtnojikbecohhfaaBkLin2
import Derived.Test.YtnojikbecohhfaaBadDem
import Derived.StillTailTactics
import Derived.Laws.Rows
namespace Go.Proofs.Ytnojikbecohhfaa
set_option linter.unusedSimpArgs false
set_option linter.unusedVariables false
open Go.RowKit Go.Sort

theorem rcutS_any (v : Int) (w : World) : Calls Try.prog 39 #[.int .i64 v] w fun e w' => e = .returned (.int .i64 (cutS v)) ∧ w = w' := by
  unfold cutS cutZ
  go_enter Try.func39, Try.ntmps39
  go_wp2_with fail
  go_returns
  exact ⟨rfl, rfl⟩
def coC (n : Int) (o m k : Bool) : Array Value := #[.int .i64 n, .bool o, .bool m, .bool k]
def coz : Array Value := coC 0 false false false
theorem coZ : ZeroIs Try.prog 63 coz := by unfold ZeroIs; kernel_rfl
theorem co_info (n : Int) (o m k : Bool) : (Try.prog.info? 63).map (·.size) = some (coC n o m k).size := by
  show _ = some 4
  kernel_rfl
theorem co_one (n : Int) (o m k : Bool) : (coC n o m k).all (·.oneCell') = true := by simp [coC, Value.oneCell']
theorem built_coz : Try.prog.built 63 [] = some coz := by kernel_rfl
theorem built_cov (n : Int) : Try.prog.built 63 [(0, .int .i64 n), (1, .bool true), (3, .bool true)] = some (coC n true false true) := by kernel_rfl
theorem built_cof (n : Int) (m : Bool) : Try.prog.built 63 [(0, .int .i64 n), (2, .bool m), (3, .bool true)] = some (coC n false m true) := by kernel_rfl
theorem smRZ : ZeroIs Try.prog 77 #[.int .i64 0, .int .i64 0, .int .i64 0] := by unfold ZeroIs; kernel_rfl
theorem smR_info (a b d : Int) : (Try.prog.info? 77).map (·.size) = some (#[Value.int .i64 a, .int .i64 b, .int .i64 d] : Array Value).size := by
  show _ = some 3
  kernel_rfl
theorem baZ : ZeroIs Try.prog 80 #[.int .i64 0, .bool false] := by unfold ZeroIs; kernel_rfl
theorem ba_info (a : Int) (b : Bool) : (Try.prog.info? 80).map (·.size) = some (#[Value.int .i64 a, .bool b] : Array Value).size := by
  show _ = some 2
  kernel_rfl
theorem built_ba : Try.prog.built 80 [(0, .int .i64 0), (1, .bool true)] = some #[.int .i64 0, .bool true] := by kernel_rfl
/-- what a line costs -/
def coV (l : List It) (wd tl f t : Int) : Array Value := if bx l f t then coC (lineD l wd tl f t).n (lineD l wd tl f t).over (lineD l wd tl f t).may true else coz
theorem styR_size (a b : Int) : a + b = b + a := Int.add_comm a b
set_option maxHeartbeats 16000000 in
set_option maxRecDepth 100000 in
theorem rLine_any {A : Option Addr} {n c : Nat} {l : List It} (sw sh st sc si f t : Int) (hn : n ≤ 1000000) (w : World) (h : Sl w w.heap.size 6 A n (encs l)) :
    Calls Try.prog 28 #[.slice A n c, .agg #[.int .i64 sw, .int .i64 sh, .int .i64 st, .int .i64 sc, .int .i64 si], .int .i64 f, .int .i64 t] w (Ret w (.agg (coV l (cutS sw) (cutS st) f t))) := by
  have hl := its_len h
  have hwd : 0 ≤ cutS sw ∧ cutS sw ≤ 10000 := cutZ_bd _ _ _ (by omega)
  have hcw := fun U => rcutS_any sw U
  have hct := fun U => rcutS_any st U
  have hlb := line_bd l f t
  obtain ⟨wd, hwd0⟩ : ∃ q, cutS sw = q := ⟨_, rfl⟩
  obtain ⟨tl, htl0⟩ : ∃ q, cutS st = q := ⟨_, rfl⟩
  simp only [hwd0, htl0] at hwd hcw hct ⊢
  obtain ⟨R, hR⟩ : ∃ q, coV l wd tl f t = q := ⟨_, rfl⟩
  rw [hR]
  have hcz := coZ
  obtain ⟨W1, hW1⟩ : ∃ q, w.alloc (.cells #[.int .i64 sw, .int .i64 sh, .int .i64 st, .int .i64 sc, .int .i64 si] 24) = q := ⟨_, rfl⟩
  have y5a : W1.heap[w.heap.size]? = some (.cells #[.int .i64 sw, .int .i64 sh, .int .i64 st, .int .i64 sc, .int .i64 si] 24) := by rw [← hW1]; exact heap_alloc_new _ _
  have hb1 : Below w.heap.size w W1 := by rw [← hW1]; exact (Below.refl _ _).alloc (Nat.le_refl _) _
  have hz1 : W1.heap.size = w.heap.size + 1 := by rw [← hW1]; simp
  obtain ⟨X, hX⟩ : ∃ q, W1.alloc (.cells coz 63) = q := ⟨_, rfl⟩
  have y8 : X.heap[W1.heap.size]? = some (.cells coz 63) := by rw [← hX]; exact heap_alloc_new _ _
  have hb2 : Below W1.heap.size W1 X := by rw [← hX]; exact (Below.refl _ _).alloc (Nat.le_refl _) _
  have y5 := bBlk hb2 (Array.getElem?_eq_some_iff.1 y5a).1 y5a
  have hBX := bNext hb1 hb2
  have hlX := h.next hBX
  obtain ⟨g8, hg8e⟩ : ∃ q, W1.heap.size = q := ⟨_, rfl⟩
  obtain ⟨g5, hg5e⟩ : ∃ q, w.heap.size = q := ⟨_, rfl⟩
  have hg8 : w.heap.size ≤ g8 := by omega
  have hg58 : g5 < g8 := by omega
  rw [hg8e] at y8
  rw [hg5e] at y5
  have hfi := rfirst_any (c := c) f (by omega) hlX
  have hli := rline_any (c := c) f t (by omega) hlX
  have H1 := Lib.hid (And.intro hBX (And.intro hlX (And.intro y5 (And.intro y8 (And.intro hl hR)))))
  have HCZ := Lib.hid (And.intro (Array.getElem?_eq_some_iff.1 y5).1 (Array.getElem?_eq_some_iff.1 y8).1)
  clear h hl hb1 hz1 hb2 y5a hBX hlX y5 hR hwd0 htl0
  go_enter Try.func28, Try.ntmps28
  go_upto_region 1 with (first | (refine wpList_new rfl hcz rfl ?_) | fail)
  try rw [hW1]
  try rw [hX]
  try rw [hg8e]
  try rw [hg5e]
  clear hW1 hX hg8e hg5e hcz
  go_wp2_with fail
  refine Calls.mono hfi ?_
  rintro e X' ⟨rfl, rfl⟩
  clear hfi
  obtain ⟨F0, hF0⟩ : ∃ q, fst l f = q := ⟨_, rfl⟩
  rw [hF0]
  have HF := Lib.hid hF0
  clear hF0
  by_cases hbx : (F0 : Int) < t
  rotate_left
  · have hRz : R = coz := by
      rw [← H1.out.2.2.2.2.2]
      unfold coV bx
      rw [HF.out, decide_eq_false hbx, if_neg (by simp)]
    have hge : t ≤ (F0 : Int) := by omega
    have HRZ := Lib.hid hRz
    clear hRz hli hbx
    go_wp2_with (first
      | (refine wpList_built rfl 63 #[] rfl (cs := coz) (by simp only [List.map_toArray, List.map_cons, List.map_nil]; exact built_coz) ?_)
      | (refine wpList_store_row rfl 63 (.tmp 8) (.tmp 20) rfl _ coz rfl rfl _ coz y8 (co_info _ _ _ _) rfl (co_one _ _ _ _) ?_)
      | fail)
    generalize hX9 : World.setRow _ _ _ = X9
    have b9 : X9.heap[g8]? = some (.cells coz 63) := by rw [← hX9]; exact setRow_heap _ _ _ _ _ _ y8
    have hBX : Below w.heap.size w X9 := by rw [← hX9]; exact bSetRow H1.out.1 hg8 _
    clear hX9
    refine bodyPost_ret (results_cell_row Try.results28 _ X9 g8 63 coz (0, 0) _ ?_ b9 Try.underlying63 rfl (co_info _ _ _ _)) rfl ?_
    · rfl
    exact Ret.mk (by (rw [HRZ.out]) <;> rfl) hBX
  · have hge : ¬ t ≤ (F0 : Int) := by omega
    have hRD : R = coC (lineD l wd tl f t).n (lineD l wd tl f t).over (lineD l wd tl f t).may true := by
      rw [← H1.out.2.2.2.2.2]
      unfold coV bx
      rw [HF.out, decide_eq_true hbx, if_pos rfl]
    have ht0 : 0 ≤ t := by omega
    have HRD := Lib.hid hRD
    clear hRD hbx
    obtain ⟨s, hs⟩ : ∃ s, line l f t = s := ⟨_, rfl⟩
    rw [hs] at hli hlb
    have HS := Lib.hid hs
    clear hs
    obtain ⟨sW, sY, sZ⟩ := s
    simp only [Sm.cells] at hli hlb
    rw [H1.out.2.2.2.2.1] at hlb
    go_upto_region 3 with (fail)
    go_wp2_with fail
    refine Calls.mono hli ?_
    rintro e X2 ⟨rfl, hb2⟩
    clear hli
    have hsz := smRZ
    obtain ⟨Y, hY, y9, bY⟩ := newRow X2 #[.int .i64 0, .int .i64 0, .int .i64 0] #[.int .i64 sW, .int .i64 sY, .int .i64 sZ] 77
    simp only
    iterate 1 (first | go_guarded | go_step | skip)
    refine wpList_new rfl hsz rfl ?_
    (try simp only [Act.put, List.setIfInBounds_toArray, List.set_cons_zero, List.set_cons_succ])
    refine wpList_store_row rfl 77 (.tmp 9) (.tmp 24) rfl _ #[.int .i64 sW, .int .i64 sY, .int .i64 sZ] rfl rfl _ #[.int .i64 0, .int .i64 0, .int .i64 0] (heap_alloc_new _ _) (smR_info _ _ _) rfl (by simp [Value.oneCell']) ?_
    (try simp only [Act.put, List.setIfInBounds_toArray, List.set_cons_zero, List.set_cons_succ])
    rw [hY]
    obtain ⟨hBX, hlX, y5, y8, hl, hR⟩ := H1.out
    have hbXY := bNext hb2 bY
    have hBY := bNext hBX hbXY
    have hlY := hlX.next hbXY
    have y5Y := bBlk hbXY HCZ.out.1 y5
    have y8Y := bBlk hbXY HCZ.out.2 y8
    obtain ⟨g9, hg9⟩ : ∃ q, X2.heap.size = q := ⟨_, rfl⟩
    rw [hg9] at y9
    try rw [hg9]
    have k50 : Y.cell? ⟨g5, 0, none⟩ = some (.int .i64 sw) := blk_cell y5Y rfl
    have k90 : Y.cell? ⟨g9, 0, none⟩ = some (.int .i64 sW) := blk_cell y9 rfl
    have l5 := (Array.getElem?_eq_some_iff.1 y5Y).1
    have l8 := (Array.getElem?_eq_some_iff.1 y8Y).1
    have l9 := (Array.getElem?_eq_some_iff.1 y9).1
    have HY := Lib.hid (And.intro hBY (And.intro hlY (And.intro y5Y (And.intro y8Y (And.intro y9 hl)))))
    have w1 : IntKind.i64.wrap (wd - sW) = wd - sW := IntWalk.i64_in _ (by omega)
    clear hBX hlX y5 y8 hl hR hbXY hBY hlY y5Y y8Y y9 hY hb2 bY hg9 hsz H1
    go_upto_region 4 with (fail)
    go_quiet ((go_at_call 39; exact q_same (hcw _)))
    obtain ⟨V, hV⟩ : ∃ q, Y.drewN nq = q := ⟨_, rfl⟩
    have hbV : Below Y.heap.size Y V := by rw [← hV]; exact bDrewN (Below.refl _ _) nq
    rw [hV]
    clear hV k50 k90 w1 hcw
    obtain ⟨hBY, hlY, y5Y, y8Y, y9, hl⟩ := HY.out
    have hBV := bNext hBY hbV
    have hlV := hlY.next hbV
    have y5V := bBlk hbV l5 y5Y
    have y8V := bBlk hbV l8 y8Y
    have y9V := bBlk hbV l9 y9
    have k91 : V.cell? ⟨g9, 1, none⟩ = some (.int .i64 sY) := blk_cell y9V rfl
    have k92 : V.cell? ⟨g9, 2, none⟩ = some (.int .i64 sZ) := blk_cell y9V rfl
    have l5V := (Array.getElem?_eq_some_iff.1 y5V).1
    have l8V := (Array.getElem?_eq_some_iff.1 y8V).1
    have l9V := (Array.getElem?_eq_some_iff.1 y9V).1
    have HV := Lib.hid (And.intro hBV (And.intro hlV (And.intro y5V (And.intro y8V (And.intro y9V hl)))))
    clear hBY hlY y5Y y8Y y9 hl hBV hlV y5V y8V y9V hbV HY l5 l8 l9
    obtain ⟨d, hd⟩ : ∃ q, wd - sW = q := ⟨_, rfl⟩
    have hdr : -10000010000 ≤ d ∧ d ≤ 10000 := by omega
    rw [hd]
    have HDD := Lib.hid hd
    clear hd
    have hbad := rof_any d sY sZ V
    obtain ⟨BB, hBB⟩ : ∃ q, badOf d sY sZ = q := ⟨_, rfl⟩
    rw [hBB] at hbad
    have HBB := Lib.hid hBB
    clear hBB
    obtain ⟨bn, bk⟩ := BB
    simp only at hbad
    go_wp2_with fail
    refine Calls.mono hbad ?_
    rintro e V2 ⟨rfl, hb3⟩
    clear hbad k91 k92
    have hbz := baZ
    obtain ⟨Z, hZ, y11, bZ⟩ := newRow V2 #[.int .i64 0, .bool false] #[.int .i64 bn, .bool bk] 80
    simp only
    iterate 1 (first | go_guarded | go_step | skip)
    refine wpList_new rfl hbz rfl ?_
    (try simp only [Act.put, List.setIfInBounds_toArray, List.set_cons_zero, List.set_cons_succ])
    refine wpList_store_row rfl 80 (.tmp 11) (.tmp 36) rfl _ #[.int .i64 bn, .bool bk] rfl rfl _ #[.int .i64 0, .bool false] (heap_alloc_new _ _) (ba_info _ _) rfl (by simp [Value.oneCell']) ?_
    (try simp only [Act.put, List.setIfInBounds_toArray, List.set_cons_zero, List.set_cons_succ])
    rw [hZ]
    obtain ⟨hBV, hlV, y5V, y8V, y9V, hl⟩ := HV.out
    have hbVZ := bNext hb3 bZ
    have hBZ := bNext hBV hbVZ
    have hlZ := hlV.next hbVZ
    have y5Z := bBlk hbVZ l5V y5V
    have y8Z := bBlk hbVZ l8V y8V
    have y9Z := bBlk hbVZ l9V y9V
    obtain ⟨g11, hg11⟩ : ∃ q, V2.heap.size = q := ⟨_, rfl⟩
    have hg811 : g8 < g11 ∧ g5 < g11 := by have := hb3.size; omega
    rw [hg11] at y11
    try rw [hg11]
    have HZ := Lib.hid (And.intro hBZ (And.intro hlZ (And.intro y5Z (And.intro y8Z (And.intro y9Z (And.intro y11 hl))))))
    clear hBV hlV y5V y8V y9V hl hbVZ hBZ hlZ y5Z y8Z y9Z y11 hZ hb3 bZ hg11 hbz HV l5V l8V l9V
    by_cases hlast : t = (n : Int) ∧ 0 ≤ d
    · obtain ⟨e1, e2⟩ := hlast
      have hB : badL l wd f t = (0, true) := by unfold badL; rw [HS.out, HZ.out.2.2.2.2.2.2, if_pos ⟨e1, by simp only; rw [HDD.out]; exact e2⟩]
      have hD : R = coC (dem 0 0 false) false (decide ((0 : Int) ≤ tl)) true := by
        rw [HRD.out]
        have hp : penAt l t = false := by unfold penAt; rw [e1, ← HZ.out.2.2.2.2.2.2]; simp
        have hc : costAt l t = 0 := by unfold costAt; rw [hp]; simp
        unfold lineD
        rw [hB, if_pos rfl, hc, hp]
        simp
      subst e1
      have y11Z := HZ.out.2.2.2.2.2.1
      have hbt := built_ba
      go_upto_region 8 with (first
        | (refine wpList_built rfl 80 #[(0, .const (.int .i64 0)), (1, .const (.bool true))] rfl (cs := #[.int .i64 0, .bool true]) (by simp only [List.map_toArray, List.map_cons, List.map_nil]; exact hbt) ?_)
        | (refine wpList_store_row rfl 80 (.tmp 11) (.tmp 45) rfl _ #[.int .i64 0, .bool true] rfl rfl _ #[.int .i64 bn, .bool bk] y11Z (ba_info _ _) rfl (by simp [Value.oneCell']) ?_)
        | fail)
      obtain ⟨U, hU⟩ : ∃ q, Z.setRow g11 #[.int .i64 0, .bool true] = q := ⟨_, rfl⟩
      rw [hU]
      have u11 : U.heap[g11]? = some (.cells #[.int .i64 0, .bool true] 80) := by rw [← hU]; exact setRow_heap _ _ _ _ _ _ y11Z
      have u8 : U.heap[g8]? = some (.cells coz 63) := by rw [← hU]; exact (setRow_other _ _ _ _ (by omega)).trans HZ.out.2.2.2.1
      have u5 : U.heap[g5]? = some (.cells #[.int .i64 sw, .int .i64 sh, .int .i64 st, .int .i64 sc, .int .i64 si] 24) := by rw [← hU]; exact (setRow_other _ _ _ _ (by omega)).trans HZ.out.2.2.1
      have ub : Below w.heap.size w U := by rw [← hU]; exact bSetRow HZ.out.1 (by omega) _
      have HD := Lib.hid hD
      clear hD hB hU y11Z hbt
      have k110 : U.cell? ⟨g11, 0, none⟩ = some (.int .i64 0) := blk_cell u11 rfl
      have k111 : U.cell? ⟨g11, 1, none⟩ = some (.bool true) := blk_cell u11 rfl
      have k52 : U.cell? ⟨g5, 2, none⟩ = some (.int .i64 st) := blk_cell u5 rfl
      have HUB := Lib.hid ub
      have HU8 := Lib.hid u8
      clear u11 u5 ub u8
      go_upto_region 15 with (fail)
      go_still_tail 12, (by kernel_rfl)
      still_call (still_of0 (rdem_any 0 0 false _))
      repeat still_step
      still_call (still_of0 (hct _))
      repeat still_step
      refine wpStill_nil ?_
      change wpList _ _ _ _ _ (World.drew _)
      have u8d : U.drew.heap[g8]? = some (.cells coz 63) := HU8.out
      have ubd : Below w.heap.size w U.drew := HUB.out.drew
      refine wpList_store_row rfl 63 (.tmp 8) (.tmp 107) rfl _ (coC (dem 0 0 false) false (decide (0 ≤ tl)) true) rfl rfl _ coz u8d (co_info _ _ _ _) rfl (co_one _ _ _ _) ?_
      (try simp only [Act.put, List.setIfInBounds_toArray, List.set_cons_zero, List.set_cons_succ])
      go_wp2_with fail
      generalize hX9 : World.setRow _ _ _ = X9
      have b9 : X9.heap[g8]? = some (.cells (coC (dem 0 0 false) false (decide (0 ≤ tl)) true) 63) := by rw [← hX9]; exact setRow_heap _ _ _ _ _ _ u8d
      have hBX : Below w.heap.size w X9 := by rw [← hX9]; exact bSetRow ubd hg8 _
      clear hX9
      refine bodyPost_ret (results_cell_row Try.results28 _ X9 g8 63 (coC (dem 0 0 false) false (decide (0 ≤ tl)) true) (0, 0) _ ?_ b9 Try.underlying63 rfl (co_info _ _ _ _)) rfl ?_
      · rfl
      exact Ret.mk (by (rw [HD.out]) <;> rfl) hBX
    · have hB : badL l wd f t = (bn, bk) := by unfold badL; rw [HS.out, HZ.out.2.2.2.2.2.2, if_neg (by simp only; rw [HDD.out]; exact hlast), HDD.out]; exact HBB.out
      have u11 := HZ.out.2.2.2.2.2.1
      have u8 := HZ.out.2.2.2.1
      have u5 := HZ.out.2.2.1
      have ub := HZ.out.1
      cases bk
      · have hov := badOf_no (show (badOf d sY sZ).2 = false by rw [HBB.out])
        have hD : R = coC (100000000000 * (min (-d) 10000 - min sZ 10000)) true false true := by
          rw [HRD.out]
          unfold lineD
          rw [hB, if_neg (by simp), HS.out]
          simp only
          rw [HDD.out]
        have k111 : Z.cell? ⟨g11, 1, none⟩ = some (.bool false) := blk_cell u11 rfl
        have k92 : Z.cell? ⟨g9, 2, none⟩ = some (.int .i64 sZ) := blk_cell HZ.out.2.2.2.2.1 rfl
        have g2 : IntKind.i64.wrap (-d) = -d := IntWalk.i64_in _ (by omega)
        have g3 : IntKind.i64.wrap (min (-d) 10000 - min sZ 10000) = min (-d) 10000 - min sZ 10000 := IntWalk.i64_in _ (by omega)
        have g4 : IntKind.i64.wrap (100000000000 * (min (-d) 10000 - min sZ 10000)) = 100000000000 * (min (-d) 10000 - min sZ 10000) := IntWalk.i64_in _ (by omega)
        have HD := Lib.hid hD
        have HUB := Lib.hid ub
        clear hD hB hov u11 u5 ub
        by_cases e0 : t = (n : Int)
        · have e2 : ¬ 0 ≤ d := fun h => hlast ⟨e0, h⟩
          have e2d : decide (0 ≤ d) = false := decide_eq_false e2
          clear hlast
          subst e0
          go_upto_region 9 with (fail)
          refine wp_region_lit ?_
          iterate 24 (first | go_guarded | go_step)
          refine wpList_built rfl 63 #[(0, .tmp 56), (1, .const (.bool true)), (3, .const (.bool true))] rfl (cs := (coC (100000000000 * (min (-d) 10000 - min sZ 10000)) true false true)) (by simp only [List.map_toArray, List.map_cons, List.map_nil]; exact built_cov _) ?_
          (try simp only [Act.put, List.setIfInBounds_toArray, List.set_cons_zero, List.set_cons_succ])
          refine wpList_store_row rfl 63 (.tmp 8) (.tmp 57) rfl _ (coC (100000000000 * (min (-d) 10000 - min sZ 10000)) true false true) rfl rfl _ coz u8 (co_info _ _ _ _) rfl (co_one _ _ _ _) ?_
          (try simp only [Act.put, List.setIfInBounds_toArray, List.set_cons_zero, List.set_cons_succ])
          go_wp2_with fail
          generalize hX9 : World.setRow _ _ _ = X9
          have b9 : X9.heap[g8]? = some (.cells (coC (100000000000 * (min (-d) 10000 - min sZ 10000)) true false true) 63) := by rw [← hX9]; exact setRow_heap _ _ _ _ _ _ u8
          have hBX : Below w.heap.size w X9 := by rw [← hX9]; exact bSetRow HUB.out hg8 _
          clear hX9
          refine bodyPost_ret (results_cell_row Try.results28 _ X9 g8 63 (coC (100000000000 * (min (-d) 10000 - min sZ 10000)) true false true) (0, 0) _ ?_ b9 Try.underlying63 rfl (co_info _ _ _ _)) rfl ?_
          · rfl
          exact Ret.mk (by (rw [HD.out]) <;> rfl) hBX
        · clear hlast
          go_upto_region 9 with (fail)
          refine wp_region_lit ?_
          iterate 24 (first | go_guarded | go_step)
          refine wpList_built rfl 63 #[(0, .tmp 56), (1, .const (.bool true)), (3, .const (.bool true))] rfl (cs := (coC (100000000000 * (min (-d) 10000 - min sZ 10000)) true false true)) (by simp only [List.map_toArray, List.map_cons, List.map_nil]; exact built_cov _) ?_
          (try simp only [Act.put, List.setIfInBounds_toArray, List.set_cons_zero, List.set_cons_succ])
          refine wpList_store_row rfl 63 (.tmp 8) (.tmp 57) rfl _ (coC (100000000000 * (min (-d) 10000 - min sZ 10000)) true false true) rfl rfl _ coz u8 (co_info _ _ _ _) rfl (co_one _ _ _ _) ?_
          (try simp only [Act.put, List.setIfInBounds_toArray, List.set_cons_zero, List.set_cons_succ])
          go_wp2_with fail
          generalize hX9 : World.setRow _ _ _ = X9
          have b9 : X9.heap[g8]? = some (.cells (coC (100000000000 * (min (-d) 10000 - min sZ 10000)) true false true) 63) := by rw [← hX9]; exact setRow_heap _ _ _ _ _ _ u8
          have hBX : Below w.heap.size w X9 := by rw [← hX9]; exact bSetRow HUB.out hg8 _
          clear hX9
          refine bodyPost_ret (results_cell_row Try.results28 _ X9 g8 63 (coC (100000000000 * (min (-d) 10000 - min sZ 10000)) true false true) (0, 0) _ ?_ b9 Try.underlying63 rfl (co_info _ _ _ _)) rfl ?_
          · rfl
          exact Ret.mk (by (rw [HD.out]) <;> rfl) hBX
      · by_cases e0 : t = (n : Int)
        · have e2 : ¬ 0 ≤ d := fun h => hlast ⟨e0, h⟩
          have e2d : decide (0 ≤ d) = false := decide_eq_false e2
          have hD : R = coC (dem bn 0 false) false (decide (bn ≤ tl)) true := by
            rw [HRD.out]
            have hp : penAt l t = false := by unfold penAt; rw [e0, ← HZ.out.2.2.2.2.2.2]; simp
            have hc : costAt l t = 0 := by unfold costAt; rw [hp]; simp
            unfold lineD
            rw [hB, if_pos rfl, hc, hp]
            simp
          have HD := Lib.hid hD
          clear hlast hD hB
          subst e0
          obtain ⟨U, hU⟩ : ∃ q, Z = q := ⟨_, rfl⟩
          rw [hU] at u11 u8 u5 ub ⊢
          clear hU
          have k110 : U.cell? ⟨g11, 0, none⟩ = some (.int .i64 bn) := blk_cell u11 rfl
          have k111 : U.cell? ⟨g11, 1, none⟩ = some (.bool true) := blk_cell u11 rfl
          have k52 : U.cell? ⟨g5, 2, none⟩ = some (.int .i64 st) := blk_cell u5 rfl
          have HUB := Lib.hid ub
          have HU8 := Lib.hid u8
          clear u11 u5 ub u8
          go_upto_region 15 with (fail)
          go_still_tail 12, (by kernel_rfl)
          still_call (still_of0 (rdem_any bn 0 false _))
          repeat still_step
          still_call (still_of0 (hct _))
          repeat still_step
          refine wpStill_nil ?_
          change wpList _ _ _ _ _ (World.drew _)
          have u8d : U.drew.heap[g8]? = some (.cells coz 63) := HU8.out
          have ubd : Below w.heap.size w U.drew := HUB.out.drew
          refine wpList_store_row rfl 63 (.tmp 8) (.tmp 107) rfl _ (coC (dem bn 0 false) false (decide (bn ≤ tl)) true) rfl rfl _ coz u8d (co_info _ _ _ _) rfl (co_one _ _ _ _) ?_
          (try simp only [Act.put, List.setIfInBounds_toArray, List.set_cons_zero, List.set_cons_succ])
          go_wp2_with fail
          generalize hX9 : World.setRow _ _ _ = X9
          have b9 : X9.heap[g8]? = some (.cells (coC (dem bn 0 false) false (decide (bn ≤ tl)) true) 63) := by rw [← hX9]; exact setRow_heap _ _ _ _ _ _ u8d
          have hBX : Below w.heap.size w X9 := by rw [← hX9]; exact bSetRow ubd hg8 _
          clear hX9
          refine bodyPost_ret (results_cell_row Try.results28 _ X9 g8 63 (coC (dem bn 0 false) false (decide (bn ≤ tl)) true) (0, 0) _ ?_ b9 Try.underlying63 rfl (co_info _ _ _ _)) rfl ?_
          · rfl
          exact Ret.mk (by (rw [HD.out]) <;> rfl) hBX
        · clear hlast
          by_cases hgt : (n : Int) < t
          · have n1 : ¬ t < (n : Int) := by omega
            have n1d : decide (t < (n : Int)) = false := decide_eq_false n1
            have hD : R = coC (dem bn 0 false) false (decide (bn ≤ tl)) true := by
              rw [HRD.out]
              have hp : penAt l t = false := by unfold penAt; rw [List.getElem?_eq_none (by have := HZ.out.2.2.2.2.2.2; omega)]; simp
              have hc : costAt l t = 0 := by unfold costAt; rw [hp]; simp
              unfold lineD
              rw [hB, if_pos rfl, hc, hp]
              simp
            have HD := Lib.hid hD
            clear hD hB
            obtain ⟨U, hU⟩ : ∃ q, Z = q := ⟨_, rfl⟩
            rw [hU] at u11 u8 u5 ub  ⊢
            clear hU
            have k110 : U.cell? ⟨g11, 0, none⟩ = some (.int .i64 bn) := blk_cell u11 rfl
            have k111 : U.cell? ⟨g11, 1, none⟩ = some (.bool true) := blk_cell u11 rfl
            have k52 : U.cell? ⟨g5, 2, none⟩ = some (.int .i64 st) := blk_cell u5 rfl
            have HUB := Lib.hid ub
            have HU8 := Lib.hid u8
            clear u11 u5 ub u8
            go_upto_region 15 with (fail)
            go_still_tail 12, (by kernel_rfl)
            still_call (still_of0 (rdem_any bn 0 false _))
            repeat still_step
            still_call (still_of0 (hct _))
            repeat still_step
            refine wpStill_nil ?_
            change wpList _ _ _ _ _ (World.drew _)
            have u8d : U.drew.heap[g8]? = some (.cells coz 63) := HU8.out
            have ubd : Below w.heap.size w U.drew := HUB.out.drew
            refine wpList_store_row rfl 63 (.tmp 8) (.tmp 107) rfl _ (coC (dem bn 0 false) false (decide (bn ≤ tl)) true) rfl rfl _ coz u8d (co_info _ _ _ _) rfl (co_one _ _ _ _) ?_
            (try simp only [Act.put, List.setIfInBounds_toArray, List.set_cons_zero, List.set_cons_succ])
            go_wp2_with fail
            generalize hX9 : World.setRow _ _ _ = X9
            have b9 : X9.heap[g8]? = some (.cells (coC (dem bn 0 false) false (decide (bn ≤ tl)) true) 63) := by rw [← hX9]; exact setRow_heap _ _ _ _ _ _ u8d
            have hBX : Below w.heap.size w X9 := by rw [← hX9]; exact bSetRow ubd hg8 _
            clear hX9
            refine bodyPost_ret (results_cell_row Try.results28 _ X9 g8 63 (coC (dem bn 0 false) false (decide (bn ≤ tl)) true) (0, 0) _ ?_ b9 Try.underlying63 rfl (co_info _ _ _ _)) rfl ?_
            · rfl
            exact Ret.mk (by (rw [HD.out]) <;> rfl) hBX
          · obtain ⟨tn, rfl⟩ : ∃ k : Nat, t = k := ⟨t.toNat, by omega⟩
            have n1 : (tn : Int) < (n : Int) := by omega
            have hll := HZ.out.2.2.2.2.2.2
            obtain ⟨x, hx⟩ := get_some (l := l) (k := tn) (by omega)
            obtain ⟨bA, oA, hA, lA, q0, -, -, -, q4, -⟩ := its_cells HZ.out.2.1 hx
            subst hA
            by_cases hk3 : x.kind = 3
            · rw [hk3] at q0
              by_cases hf : f < 0
              · have n2 : ¬ 0 ≤ f := by omega
                have n2d : decide (0 ≤ f) = false := decide_eq_false n2
                have hD : R = coC (dem bn (pl x.cost) false) false (decide (bn ≤ tl)) true := by
                  rw [HRD.out]
                  have hp : penAt l tn = true := by unfold penAt; rw [Int.toNat_natCast, hx]; simp [hk3]
                  have hc : costAt l tn = pl x.cost := by unfold costAt; rw [hp, if_pos rfl, Int.toNat_natCast, hx]
                  have hq : penAt l f = false := by unfold penAt; rw [decide_eq_false n2]; rfl
                  unfold lineD
                  rw [hB, if_pos rfl, hc, hp]
                  rw [hq]; simp
                have HD := Lib.hid hD
                clear hD hB
                obtain ⟨U, hU⟩ : ∃ q, Z = q := ⟨_, rfl⟩
                rw [hU] at u11 u8 u5 ub q0 q4 lA ⊢
                clear hU
                clear hx hk3 hll
                have k110 : U.cell? ⟨g11, 0, none⟩ = some (.int .i64 bn) := blk_cell u11 rfl
                have k111 : U.cell? ⟨g11, 1, none⟩ = some (.bool true) := blk_cell u11 rfl
                have k52 : U.cell? ⟨g5, 2, none⟩ = some (.int .i64 st) := blk_cell u5 rfl
                have HUB := Lib.hid ub
                have HU8 := Lib.hid u8
                clear u11 u5 ub u8
                go_upto_region 15 with (go_at_call 32; refine (rplain_any _ _).mono ?_; rintro e w' ⟨rfl, rfl⟩)
                go_still_tail 12, (by kernel_rfl)
                still_call (still_of0 (rdem_any bn (pl x.cost) false _))
                repeat still_step
                still_call (still_of0 (hct _))
                repeat still_step
                refine wpStill_nil ?_
                change wpList _ _ _ _ _ (World.drew _)
                have u8d : U.drew.heap[g8]? = some (.cells coz 63) := HU8.out
                have ubd : Below w.heap.size w U.drew := HUB.out.drew
                refine wpList_store_row rfl 63 (.tmp 8) (.tmp 107) rfl _ (coC (dem bn (pl x.cost) false) false (decide (bn ≤ tl)) true) rfl rfl _ coz u8d (co_info _ _ _ _) rfl (co_one _ _ _ _) ?_
                (try simp only [Act.put, List.setIfInBounds_toArray, List.set_cons_zero, List.set_cons_succ])
                go_wp2_with fail
                generalize hX9 : World.setRow _ _ _ = X9
                have b9 : X9.heap[g8]? = some (.cells (coC (dem bn (pl x.cost) false) false (decide (bn ≤ tl)) true) 63) := by rw [← hX9]; exact setRow_heap _ _ _ _ _ _ u8d
                have hBX : Below w.heap.size w X9 := by rw [← hX9]; exact bSetRow ubd hg8 _
                clear hX9
                refine bodyPost_ret (results_cell_row Try.results28 _ X9 g8 63 (coC (dem bn (pl x.cost) false) false (decide (bn ≤ tl)) true) (0, 0) _ ?_ b9 Try.underlying63 rfl (co_info _ _ _ _)) rfl ?_
                · rfl
                exact Ret.mk (by (rw [HD.out]) <;> rfl) hBX
              · by_cases hfn : f < (n : Int)
                · obtain ⟨fn, rfl⟩ : ∃ k : Nat, f = k := ⟨f.toNat, by omega⟩
                  have n2 : 0 ≤ (fn : Int) := by omega
                  obtain ⟨y, hy⟩ := get_some (l := l) (k := fn) (by omega)
                  obtain ⟨bA', oA', hA, -, p0, -⟩ := its_cells HZ.out.2.1 hy
                  cases hA
                  by_cases hy3 : y.kind = 3
                  · rw [hy3] at p0
                    have hD : R = coC (dem bn (pl x.cost) true) false (decide (bn ≤ tl)) true := by
                      rw [HRD.out]
                      have hp : penAt l tn = true := by unfold penAt; rw [Int.toNat_natCast, hx]; simp [hk3]
                      have hc : costAt l tn = pl x.cost := by unfold costAt; rw [hp, if_pos rfl, Int.toNat_natCast, hx]
                      have hq : penAt l fn = true := by unfold penAt; rw [Int.toNat_natCast, hy]; simp [hy3]
                      unfold lineD
                      rw [hB, if_pos rfl, hc, hp]
                      rw [hq]; simp
                    have HD := Lib.hid hD
                    clear hD hB
                    obtain ⟨U, hU⟩ : ∃ q, Z = q := ⟨_, rfl⟩
                    rw [hU] at u11 u8 u5 ub q0 q4 p0 lA ⊢
                    clear hU
                    clear hx hk3 hll hy hy3
                    have k110 : U.cell? ⟨g11, 0, none⟩ = some (.int .i64 bn) := blk_cell u11 rfl
                    have k111 : U.cell? ⟨g11, 1, none⟩ = some (.bool true) := blk_cell u11 rfl
                    have k52 : U.cell? ⟨g5, 2, none⟩ = some (.int .i64 st) := blk_cell u5 rfl
                    have HUB := Lib.hid ub
                    have HU8 := Lib.hid u8
                    clear u11 u5 ub u8
                    go_upto_region 15 with (go_at_call 32; refine (rplain_any _ _).mono ?_; rintro e w' ⟨rfl, rfl⟩)
                    go_still_tail 12, (by kernel_rfl)
                    still_call (still_of0 (rdem_any bn (pl x.cost) true _))
                    repeat still_step
                    still_call (still_of0 (hct _))
                    repeat still_step
                    refine wpStill_nil ?_
                    change wpList _ _ _ _ _ (World.drew _)
                    have u8d : U.drew.heap[g8]? = some (.cells coz 63) := HU8.out
                    have ubd : Below w.heap.size w U.drew := HUB.out.drew
                    refine wpList_store_row rfl 63 (.tmp 8) (.tmp 107) rfl _ (coC (dem bn (pl x.cost) true) false (decide (bn ≤ tl)) true) rfl rfl _ coz u8d (co_info _ _ _ _) rfl (co_one _ _ _ _) ?_
                    (try simp only [Act.put, List.setIfInBounds_toArray, List.set_cons_zero, List.set_cons_succ])
                    go_wp2_with fail
                    generalize hX9 : World.setRow _ _ _ = X9
                    have b9 : X9.heap[g8]? = some (.cells (coC (dem bn (pl x.cost) true) false (decide (bn ≤ tl)) true) 63) := by rw [← hX9]; exact setRow_heap _ _ _ _ _ _ u8d
                    have hBX : Below w.heap.size w X9 := by rw [← hX9]; exact bSetRow ubd hg8 _
                    clear hX9
                    refine bodyPost_ret (results_cell_row Try.results28 _ X9 g8 63 (coC (dem bn (pl x.cost) true) false (decide (bn ≤ tl)) true) (0, 0) _ ?_ b9 Try.underlying63 rfl (co_info _ _ _ _)) rfl ?_
                    · rfl
                    exact Ret.mk (by (rw [HD.out]) <;> rfl) hBX
                  · have hyd : (y.kind == 3) = false := beq_eq_false_iff_ne.2 hy3
                    have hD : R = coC (dem bn (pl x.cost) false) false (decide (bn ≤ tl)) true := by
                      rw [HRD.out]
                      have hp : penAt l tn = true := by unfold penAt; rw [Int.toNat_natCast, hx]; simp [hk3]
                      have hc : costAt l tn = pl x.cost := by unfold costAt; rw [hp, if_pos rfl, Int.toNat_natCast, hx]
                      have hq : penAt l fn = false := by unfold penAt; rw [Int.toNat_natCast, hy]; simp [hy3]
                      unfold lineD
                      rw [hB, if_pos rfl, hc, hp]
                      rw [hq]; simp
                    have HD := Lib.hid hD
                    clear hD hB
                    obtain ⟨U, hU⟩ : ∃ q, Z = q := ⟨_, rfl⟩
                    rw [hU] at u11 u8 u5 ub q0 q4 p0 lA ⊢
                    clear hU
                    obtain ⟨yk, hyk⟩ : ∃ q, y.kind = q := ⟨_, rfl⟩
                    rw [hyk] at p0 hyd hy3
                    clear hx hk3 hll hy hyk
                    have k110 : U.cell? ⟨g11, 0, none⟩ = some (.int .i64 bn) := blk_cell u11 rfl
                    have k111 : U.cell? ⟨g11, 1, none⟩ = some (.bool true) := blk_cell u11 rfl
                    have k52 : U.cell? ⟨g5, 2, none⟩ = some (.int .i64 st) := blk_cell u5 rfl
                    have HUB := Lib.hid ub
                    have HU8 := Lib.hid u8
                    clear u11 u5 ub u8
                    go_upto_region 15 with (go_at_call 32; refine (rplain_any _ _).mono ?_; rintro e w' ⟨rfl, rfl⟩)
                    go_still_tail 12, (by kernel_rfl)
                    still_call (still_of0 (rdem_any bn (pl x.cost) false _))
                    repeat still_step
                    still_call (still_of0 (hct _))
                    repeat still_step
                    refine wpStill_nil ?_
                    change wpList _ _ _ _ _ (World.drew _)
                    have u8d : U.drew.heap[g8]? = some (.cells coz 63) := HU8.out
                    have ubd : Below w.heap.size w U.drew := HUB.out.drew
                    refine wpList_store_row rfl 63 (.tmp 8) (.tmp 107) rfl _ (coC (dem bn (pl x.cost) false) false (decide (bn ≤ tl)) true) rfl rfl _ coz u8d (co_info _ _ _ _) rfl (co_one _ _ _ _) ?_
                    (try simp only [Act.put, List.setIfInBounds_toArray, List.set_cons_zero, List.set_cons_succ])
                    go_wp2_with fail
                    generalize hX9 : World.setRow _ _ _ = X9
                    have b9 : X9.heap[g8]? = some (.cells (coC (dem bn (pl x.cost) false) false (decide (bn ≤ tl)) true) 63) := by rw [← hX9]; exact setRow_heap _ _ _ _ _ _ u8d
                    have hBX : Below w.heap.size w X9 := by rw [← hX9]; exact bSetRow ubd hg8 _
                    clear hX9
                    refine bodyPost_ret (results_cell_row Try.results28 _ X9 g8 63 (coC (dem bn (pl x.cost) false) false (decide (bn ≤ tl)) true) (0, 0) _ ?_ b9 Try.underlying63 rfl (co_info _ _ _ _)) rfl ?_
                    · rfl
                    exact Ret.mk (by (rw [HD.out]) <;> rfl) hBX
                · have n2 : 0 ≤ f := by omega
                  have n3d : decide (f < (n : Int)) = false := decide_eq_false hfn
                  have hD : R = coC (dem bn (pl x.cost) false) false (decide (bn ≤ tl)) true := by
                    rw [HRD.out]
                    have hp : penAt l tn = true := by unfold penAt; rw [Int.toNat_natCast, hx]; simp [hk3]
                    have hc : costAt l tn = pl x.cost := by unfold costAt; rw [hp, if_pos rfl, Int.toNat_natCast, hx]
                    have hq : penAt l f = false := by unfold penAt; rw [List.getElem?_eq_none (by omega)]; simp
                    unfold lineD
                    rw [hB, if_pos rfl, hc, hp]
                    rw [hq]; simp
                  have HD := Lib.hid hD
                  clear hD hB
                  obtain ⟨U, hU⟩ : ∃ q, Z = q := ⟨_, rfl⟩
                  rw [hU] at u11 u8 u5 ub q0 q4 lA ⊢
                  clear hU
                  clear hx hk3 hll
                  have k110 : U.cell? ⟨g11, 0, none⟩ = some (.int .i64 bn) := blk_cell u11 rfl
                  have k111 : U.cell? ⟨g11, 1, none⟩ = some (.bool true) := blk_cell u11 rfl
                  have k52 : U.cell? ⟨g5, 2, none⟩ = some (.int .i64 st) := blk_cell u5 rfl
                  have HUB := Lib.hid ub
                  have HU8 := Lib.hid u8
                  clear u11 u5 ub u8
                  go_upto_region 15 with (go_at_call 32; refine (rplain_any _ _).mono ?_; rintro e w' ⟨rfl, rfl⟩)
                  go_still_tail 12, (by kernel_rfl)
                  still_call (still_of0 (rdem_any bn (pl x.cost) false _))
                  repeat still_step
                  still_call (still_of0 (hct _))
                  repeat still_step
                  refine wpStill_nil ?_
                  change wpList _ _ _ _ _ (World.drew _)
                  have u8d : U.drew.heap[g8]? = some (.cells coz 63) := HU8.out
                  have ubd : Below w.heap.size w U.drew := HUB.out.drew
                  refine wpList_store_row rfl 63 (.tmp 8) (.tmp 107) rfl _ (coC (dem bn (pl x.cost) false) false (decide (bn ≤ tl)) true) rfl rfl _ coz u8d (co_info _ _ _ _) rfl (co_one _ _ _ _) ?_
                  (try simp only [Act.put, List.setIfInBounds_toArray, List.set_cons_zero, List.set_cons_succ])
                  go_wp2_with fail
                  generalize hX9 : World.setRow _ _ _ = X9
                  have b9 : X9.heap[g8]? = some (.cells (coC (dem bn (pl x.cost) false) false (decide (bn ≤ tl)) true) 63) := by rw [← hX9]; exact setRow_heap _ _ _ _ _ _ u8d
                  have hBX : Below w.heap.size w X9 := by rw [← hX9]; exact bSetRow ubd hg8 _
                  clear hX9
                  refine bodyPost_ret (results_cell_row Try.results28 _ X9 g8 63 (coC (dem bn (pl x.cost) false) false (decide (bn ≤ tl)) true) (0, 0) _ ?_ b9 Try.underlying63 rfl (co_info _ _ _ _)) rfl ?_
                  · rfl
                  exact Ret.mk (by (rw [HD.out]) <;> rfl) hBX
            · have hkd : (x.kind == 3) = false := beq_eq_false_iff_ne.2 hk3
              have hD : R = coC (dem bn 0 false) false (decide (bn ≤ tl)) true := by
                rw [HRD.out]
                have hp : penAt l tn = false := by unfold penAt; rw [Int.toNat_natCast, hx]; simp [hk3]
                have hc : costAt l tn = 0 := by unfold costAt; rw [hp]; simp
                unfold lineD
                rw [hB, if_pos rfl, hc, hp]
                simp
              have HD := Lib.hid hD
              clear hD hB
              obtain ⟨U, hU⟩ : ∃ q, Z = q := ⟨_, rfl⟩
              rw [hU] at u11 u8 u5 ub q0 lA ⊢
              clear hU
              obtain ⟨xk, hxk⟩ : ∃ q, x.kind = q := ⟨_, rfl⟩
              rw [hxk] at q0 hkd hk3
              clear hx hll hxk q4
              have k110 : U.cell? ⟨g11, 0, none⟩ = some (.int .i64 bn) := blk_cell u11 rfl
              have k111 : U.cell? ⟨g11, 1, none⟩ = some (.bool true) := blk_cell u11 rfl
              have k52 : U.cell? ⟨g5, 2, none⟩ = some (.int .i64 st) := blk_cell u5 rfl
              have HUB := Lib.hid ub
              have HU8 := Lib.hid u8
              clear u11 u5 ub u8
              go_upto_region 15 with (fail)
              go_still_tail 12, (by kernel_rfl)
              still_call (still_of0 (rdem_any bn 0 false _))
              repeat still_step
              still_call (still_of0 (hct _))
              repeat still_step
              refine wpStill_nil ?_
              change wpList _ _ _ _ _ (World.drew _)
              have u8d : U.drew.heap[g8]? = some (.cells coz 63) := HU8.out
              have ubd : Below w.heap.size w U.drew := HUB.out.drew
              refine wpList_store_row rfl 63 (.tmp 8) (.tmp 107) rfl _ (coC (dem bn 0 false) false (decide (bn ≤ tl)) true) rfl rfl _ coz u8d (co_info _ _ _ _) rfl (co_one _ _ _ _) ?_
              (try simp only [Act.put, List.setIfInBounds_toArray, List.set_cons_zero, List.set_cons_succ])
              go_wp2_with fail
              generalize hX9 : World.setRow _ _ _ = X9
              have b9 : X9.heap[g8]? = some (.cells (coC (dem bn 0 false) false (decide (bn ≤ tl)) true) 63) := by rw [← hX9]; exact setRow_heap _ _ _ _ _ _ u8d
              have hBX : Below w.heap.size w X9 := by rw [← hX9]; exact bSetRow ubd hg8 _
              clear hX9
              refine bodyPost_ret (results_cell_row Try.results28 _ X9 g8 63 (coC (dem bn 0 false) false (decide (bn ≤ tl)) true) (0, 0) _ ?_ b9 Try.underlying63 rfl (co_info _ _ _ _)) rfl ?_
              · rfl
              exact Ret.mk (by (rw [HD.out]) <;> rfl) hBX
end Go.Proofs.Ytnojikbecohhfaa
