/- The walk over the reference's best. (s10/bkrbest.py writes it.) -/
import Derived.Test.YtnojikbecohhfaaBkRRep
import Derived.Laws.Rows
import Derived.Laws.ResultCell
namespace Go.Proofs.Ytnojikbecohhfaa
set_option linter.unusedSimpArgs false
set_option linter.unusedVariables false
open Go.RowKit Go.Sort

attribute [-go_sem] Builtin.append_
def RBP (w : World) (o : Option WY) (e : Ending) (w' : World) : Prop := ∃ A m c, e = .returned (.tuple #[wyv A m c (o.getD wy0).total (o.getD wy0).over, .bool o.isSome]) ∧ IvAt w' w'.heap.size A m c (o.getD wy0).ends ∧ (∀ b o i, A = some ⟨b, o, i⟩ → w.heap.size ≤ b) ∧ Below w.heap.size w w'
set_option maxHeartbeats 32000000 in
set_option maxRecDepth 100000 in
theorem rbest_any {A : Option Addr} {n c : Nat} {l : List It} (sw sh st sc si : Int) (all : Bool) (hn : n ≤ 600) (w : World) (h : Sl w w.heap.size 6 A n (encs l)) :
    Calls Try.prog 31 #[.slice A n c, .agg #[.int .i64 sw, .int .i64 sh, .int .i64 st, .int .i64 sc, .int .i64 si], .bool (!all)] w (RBP w (srch l (cutS sw) (cutS st) all)) := by
  have hl := its_len h
  obtain ⟨ft, hft⟩ : ∃ q, (!all) = q := ⟨_, rfl⟩
  rw [hft]
  have HFT := Lib.hid hft
  clear hft
  have hrl := fun (f t : Int) (U : World) (hb : Below w.heap.size w U) => rLine_any (c := c) sw sh st sc si f t (by omega) U (h.next hb)
  obtain ⟨wd, hwd⟩ : ∃ q, cutS sw = q := ⟨_, rfl⟩
  obtain ⟨tl, htl⟩ : ∃ q, cutS st = q := ⟨_, rfl⟩
  simp only [hwd, htl] at hrl ⊢
  have HRL := Lib.hid hrl
  clear hrl hwd htl
  obtain ⟨K, hK⟩ : ∃ K, (brks l).length = K := ⟨_, rfl⟩
  have hK0 : K ≤ 601 := by have h1 := brks_len l; have h2 := brksTo_len l l.length; omega
  obtain ⟨RO, hRO⟩ : ∃ q, srch l wd tl all = q := ⟨_, rfl⟩
  rw [hRO]
  have HRO := Lib.hid (show rW l wd tl all K = RO by rw [← hRO]; unfold rW srch; rw [hK])
  clear hRO
  have hwz := wyZ
  have hz3 : wyz.size = 3 := rfl
  have hzi : (Try.prog.info? 37).map (·.size) = some wyz.size := wy_size
  obtain ⟨zw, hzw⟩ : ∃ q, wyz = q := ⟨_, rfl⟩
  rw [hzw] at hwz hz3 hzi
  have HZW := Lib.hid hzw
  clear hzw
  obtain ⟨W1, hW1⟩ : ∃ q, w.alloc (.cells #[.int .i64 sw, .int .i64 sh, .int .i64 st, .int .i64 sc, .int .i64 si] 24) = q := ⟨_, rfl⟩
  have y4a : W1.heap[w.heap.size]? = some (.cells #[.int .i64 sw, .int .i64 sh, .int .i64 st, .int .i64 sc, .int .i64 si] 24) := by rw [← hW1]; exact heap_alloc_new _ _
  have hb1 : Below w.heap.size w W1 := by rw [← hW1]; exact (Below.refl _ _).alloc (Nat.le_refl _) _
  have hz1 : W1.heap.size = w.heap.size + 1 := by rw [← hW1]; simp
  obtain ⟨X, hX⟩ : ∃ q, W1.alloc (.cells zw 37) = q := ⟨_, rfl⟩
  have y6 : X.heap[W1.heap.size]? = some (.cells zw 37) := by rw [← hX]; exact heap_alloc_new _ _
  have hb2 : Below W1.heap.size W1 X := by rw [← hX]; exact (Below.refl _ _).alloc (Nat.le_refl _) _
  have y4 := bBlk hb2 (Array.getElem?_eq_some_iff.1 y4a).1 y4a
  have hBX := bNext hb1 hb2
  obtain ⟨b6, hb6⟩ : ∃ q, W1.heap.size = q := ⟨_, rfl⟩
  obtain ⟨b4, hb4⟩ : ∃ q, w.heap.size = q := ⟨_, rfl⟩
  have hb46 : w.heap.size ≤ b6 ∧ b4 < b6 := by omega
  rw [hb6] at y6
  rw [hb4] at y4
  have l4X := (Array.getElem?_eq_some_iff.1 y4).1
  have l6X := (Array.getElem?_eq_some_iff.1 y6).1
  have hB1 : Below X.heap.size X (X.alloc (.cells #[.int .i64 (-1)] 3)) := (Below.refl _ _).alloc (Nat.le_refl _) _
  have hbr := rbreaks_any (c := c) (by omega) ((h.next hBX).next hB1)
  have hown1 := own_first X (-1)
  have HS0 := Lib.hid (And.intro (h.next hBX) (And.intro hBX (And.intro y4 (And.intro y6 (And.intro hB1 hl)))))
  clear h hb1 hb2 y4a y4 y6 hBX hB1 hz1 hl
  go_enter Try.func31, Try.ntmps31
  go_upto_region 1 with (first | (refine wpList_new rfl hwz rfl ?_) | fail)
  try rw [hW1]
  try rw [hX]
  try rw [hb6]
  try rw [hb4]
  clear hW1 hX hb6
  go_wp2_with fail
  refine Calls.mono hbr ?_
  rintro e U ⟨A14, c14, rfl, hown2, hbU⟩
  clear hbr
  have hown1U := own_below hown1 hbU
  have hsU : Sl U U.heap.size 1 A14 (brks l).length (ivs ((brks l).map (fun n : Nat => (n : Int)))) := by rw [← ints_ivs]; exact Sl.of_own hown2
  have hone := one_ivs ((brks l).map (fun n : Nat => (n : Int)))
  have hszU : X.heap.size ≤ U.heap.size := by have := hbU.size; rw [World.size_alloc] at this; omega
  rw [hK] at hsU hown2
  obtain ⟨MR, hMR⟩ : ∃ q, (brks l).map (fun n : Nat => (n : Int)) = q := ⟨_, rfl⟩
  rw [hMR] at hsU hone
  have HMR := Lib.hid hMR
  have HBU := Lib.hid hbU
  rw [hK]
  clear hown1 hown2 hbU hMR
  simp only
  iterate 1 (first | go_guarded | go_step | skip)
  refine wpList_app _ rfl (.tmp 15) (.tmp 17) 25 rfl (base := X.heap.size) Try.underlying25 elemI rfl hown1U rfl hsU hone (by simp only [maxLen]; omega) (by omega) hszU ?_
  intro A5 c5 Y hownY hgY hbY hatY
  (try simp only [Act.put, List.setIfInBounds_toArray, List.set_cons_zero, List.set_cons_succ])
  obtain ⟨N, hN⟩ : ∃ N, 1 + K = N := ⟨_, rfl⟩
  rw [hN] at hownY ⊢
  have hplc : ivs [-1] ++ ivs MR = ivs (plc l) := by rw [← ivs_append, ← HMR.out]; rfl
  rw [hplc] at hownY
  have hplN : (plc l).length = N := by rw [plc_len, hK]; omega
  obtain ⟨hXl, hBX, x4, x6, hB1, hl⟩ := HS0.out
  have hBXY : Below X.heap.size X Y := (hB1.trans (HBU.out.mono hB1.size)).trans hbY
  have hivP : IvAt Y Y.heap.size A5 N c5 (plc l) := by
    obtain ⟨_, _, e', hcap, -⟩ := own_form hownY
    cases e'
    refine ⟨fun z hz => ?_, hplN, Sl.of_own hownY, hcap⟩
    obtain ⟨i, hi, rfl⟩ := List.getElem_of_mem hz
    have := plc_rng (l := l) (k := i) hi
    unfold plcAt at this
    rw [List.getElem?_eq_getElem hi, Option.getD_some] at this
    omega
  have hBY := bNext hBX hBXY
  have hYl := hXl.next hBXY
  have y4 := bBlk hBXY l4X x4
  have y6 := bBlk hBXY l6X x6
  have l4Y := (Array.getElem?_eq_some_iff.1 y4).1
  have l6Y := (Array.getElem?_eq_some_iff.1 y6).1
  have hN0 : 1 ≤ N := by omega
  have hN6 : N ≤ 602 := by omega
  have hKN : N = K + 1 := by omega
  have HKN := Lib.hid (And.intro hKN (And.intro hplN hl))
  clear hKN hK0
  have HY := Lib.hid (And.intro hBY (And.intro hYl (And.intro y4 (And.intro y6 hivP))))
  clear hXl hBX x4 x6 hB1 hl hBXY hivP hBY hYl y4 y6 HS0 HMR HBU hplc hplN hownY hgY hbY hatY hown1U hsU hone hN hK hszU l4X l6X
  -- the tables
  have hmk1 := make_tab3 N (by omega) (by omega) Y
  obtain ⟨cs0, hcs0⟩ : ∃ q, madeCells wyz (N * 3) = q := ⟨_, rfl⟩
  rw [hcs0] at hmk1
  obtain ⟨Z1, hZ1⟩ : ∃ q, Y.alloc (.cells cs0 37) = q := ⟨_, rfl⟩
  have yF : Z1.heap[Y.heap.size]? = some (.cells cs0 37) := by rw [← hZ1]; exact heap_alloc_new _ _
  have hbZ1 : Below Y.heap.size Y Z1 := by rw [← hZ1]; exact (Below.refl _ _).alloc (Nat.le_refl _) _
  have hsz1 : Z1.heap.size = Y.heap.size + 1 := by rw [← hZ1]; simp
  rw [hZ1] at hmk1
  have hmk2 := make_bools N (by omega) (by omega) Z1
  obtain ⟨ds0, hds0⟩ : ∃ q, madeCells #[.bool false] N = q := ⟨_, rfl⟩
  rw [hds0] at hmk2
  obtain ⟨Z2, hZ2⟩ : ∃ q, Z1.alloc (.cells ds0 4) = q := ⟨_, rfl⟩
  have yG : Z2.heap[Z1.heap.size]? = some (.cells ds0 4) := by rw [← hZ2]; exact heap_alloc_new _ _
  have hbZ2 : Below Z1.heap.size Z1 Z2 := by rw [← hZ2]; exact (Below.refl _ _).alloc (Nat.le_refl _) _
  rw [hZ2] at hmk2
  clear hZ1 hZ2
  have yF2 := bBlk hbZ2 (Array.getElem?_eq_some_iff.1 yF).1 yF
  have hbYZ := hbZ1.trans (hbZ2.mono hbZ1.size)
  obtain ⟨G, hG⟩ : ∃ G, Z1.heap.size = G := ⟨_, rfl⟩
  obtain ⟨F, hF⟩ : ∃ F, Y.heap.size = F := ⟨_, rfl⟩
  have hFG : F < G := by omega
  rw [hG] at hmk2 yG
  rw [hF] at hmk1 yF2 hbYZ
  have hd0 : ds0[0]? = some (.bool false) := by rw [← hds0]; exact madeb_at (by omega)
  have k0 : Z2.cell? ⟨G, 0, none⟩ = some (.bool false) := blk_cell yG hd0
  have f0 := blk_frozen yG 0
  have lG2 := (Array.getElem?_eq_some_iff.1 yG).1
  have hN0' : (0 : Int) < (N : Int) := by omega
  have HT := Lib.hid (And.intro yF2 (And.intro yG (And.intro hbYZ (And.intro hcs0 (And.intro hds0 hF)))))
  clear yF yF2 yG hbZ1 hbZ2 hbYZ hcs0 hds0 hd0 hsz1 hF hG
  go_upto_region 3 with (fail)
  go_upto_region 4 with (fail)
  clear hmk1 hmk2
  go_upto_region 5 with (fail)
  obtain ⟨Z, hZ⟩ : ∃ q, Z2.setCell ⟨G, 0, none⟩ (.bool true) = q := ⟨_, rfl⟩
  rw [hZ]
  obtain ⟨yF2, yG, hbYZ, hcs0, hds0, hF⟩ := HT.out
  obtain ⟨hBY, hYl, y4, y6, hivP⟩ := HY.out
  have hrep : RRep Z F G N (gst (rW l wd tl all) 1 none) cs0 (ds0.setIfInBounds 0 (.bool true)) := by
    refine tab_two hFG hN0 ?_ ?_ hcs0.symm (by rw [hds0]) (rW_zero l wd tl all)
    · rw [← hZ]; exact blk_far yF2 _ (by show F ≠ G; omega)
    · rw [← hZ]; exact blk_set yG 0 _
  have hBF : Below F Z2 Z := by rw [← hZ]; exact (Below.refl _ _).setCell (p := ⟨G, 0, none⟩) (by show F ≤ G; omega) _
  have hBYZ : Below Y.heap.size Y Z := by rw [hF]; exact hbYZ.trans hBF
  have hBZ := bNext hBY hBYZ
  have hZl := hYl.next hBYZ
  have z4 := bBlk hBYZ l4Y y4
  have z6 := bBlk hBYZ l6Y y6
  obtain ⟨bP, oP, hAP, lP, -⟩ := hivP.sl.at_ (by omega)
  subst hAP
  have zP := fun (i : Nat) (x : Int) (hx : (plc l)[i]? = some x) => (hBYZ.cell (p := ⟨bP, oP + i, none⟩) lP).trans (by
    obtain ⟨b', o', e', -, h'⟩ := hivP.entry hx
    cases e'
    exact h')
  have hb6F : b6 < F ∧ b4 < F ∧ bP < F ∧ w.heap.size ≤ F := by have := hBY.size; omega
  have HZ := Lib.hid (And.intro hBZ (And.intro hZl (And.intro z4 (And.intro z6 zP))))
  have HB6 := Lib.hid hb6F
  have HREP := Lib.hid hrep
  have lGZ : G < Z.heap.size := (Array.getElem?_eq_some_iff.1 hrep.blk2).1
  clear hZ yF2 yG hbYZ hcs0 hds0 hF hBY hYl y4 y6 hivP hrep hBF hBYZ hBZ hZl z4 z6 zP HT HY k0 f0 lG2 l4Y l6Y lP
  have hcz := coZ
  go_wp2_with fail
  go_loopw [11] (fun s11 wr => ∃ k : Nat, 1 ≤ k ∧ k ≤ N ∧ s11 = .int .i64 k ∧ G < wr.heap.size ∧ Hid (Below F Z wr ∧ ∃ cs ds, RRep wr F G N (gst (rW l wd tl all) k none) cs ds)) (fun i _ => N - (intOf i).toNat)
  case atStart => exact ⟨1, by omega, by omega, rfl, lGZ, Lib.hid ⟨Below.refl _ _, _, _, HREP.out⟩⟩
  case round =>
    clear HREP lGZ
    obtain ⟨k, hk1, hkN, rfl, hGr, HK⟩ := hrel
    by_cases hlt : k < N
    rotate_left
    · obtain rfl : k = N := by omega
      have hi1 : ¬ (k : Int) < (k : Int) := by omega
      obtain ⟨cs, ds, hrep⟩ := HK.out.2
      have hKk : K < k := by have := HKN.out.1; omega
      have hcel := hrep.cel K hKk
      rw [gst_lt hKk, HRO.out] at hcel
      have hc2 := hrep.cel2 K hKk
      rw [gst_lt hKk, HRO.out] at hc2
      obtain ⟨A8, m8, c8, e0, e1, e2, hiv8⟩ := hcel
      obtain ⟨rt, hrt⟩ : ∃ q, (RO.getD wy0).total = q := ⟨_, rfl⟩
      obtain ⟨ro, hro⟩ : ∃ q, (RO.getD wy0).over = q := ⟨_, rfl⟩
      rw [hrt] at e1
      rw [hro] at e2
      obtain ⟨cw, hcw⟩ : ∃ q : Array Value, #[.slice A8 m8 c8, .int .i64 rt, .int .i64 ro] = q := ⟨_, rfl⟩
      have hcl : cw.toList = [.slice A8 m8 c8, .int .i64 rt, .int .i64 ro] := by rw [← hcw]
      have hr5 : wr.rangeAt F (K * 3) cw.toList := by
        intro j v hj
        rw [hcl] at hj
        match j, hj with
        | 0, hj => cases hj; exact blk_cell hrep.blk e0
        | 1, hj => cases hj; exact blk_cell hrep.blk e1
        | 2, hj => cases hj; exact blk_cell hrep.blk e2
      have k2 : wr.cell? ⟨G, K, none⟩ = some (.bool RO.isSome) := blk_cell hrep.blk2 hc2
      have hFw := (Array.getElem?_eq_some_iff.1 hrep.blk).1
      have hGw := (Array.getElem?_eq_some_iff.1 hrep.blk2).1
      have x6 := bBlk HK.out.1 HB6.out.1 HZ.out.2.2.2.1
      have hbw : Below w.heap.size w wr := HZ.out.1.trans (HK.out.1.mono HB6.out.2.2.2)
      have g1 : IntKind.i64.wrap ((k : Int) - 1) = (K : Int) := by rw [wrap_small _ (by omega) (by omega)]; have := HKN.out.1; omega
      have hKi : (K : Int) < (k : Int) := by omega
      have hK0i : (0 : Int) ≤ (K : Int) := by omega
      have hne : ¬ F = b6 ∧ ¬ G = b6 := by have := HB6.out.1; omega
      have hci : (Try.prog.info? 37).map (·.size) = some cw.size := by rw [← hcw]; exact wy_inf _ _ _ _ _
      have hcil : (Try.prog.info? 37).map (·.size) = some cw.toList.length := by rw [hcl]; show _ = some 3; exact wy_size
      have hczw : zw.size = cw.size := by rw [← hcw]; exact wy_zs hz3 _ _ _ _ _
      have hcon : cw.all (·.oneCell') = true := by rw [← hcw]; exact wy_on _ _ _ _ _
      have HF := Lib.hid (And.intro hbw (And.intro hiv8 (And.intro hcw (And.intro hrt hro))))
      obtain ⟨os, hos⟩ : ∃ q, RO.isSome = q := ⟨_, rfl⟩
      rw [hos] at k2
      have HOS := Lib.hid hos
      clear hrep hc2 e0 e1 e2 hiv8 hbw HK hcw hcl hrt hro hos hcz
      go_upto_region 18 with (fail)
      let S : World → Prop := fun w' => But wr.heap.size (· = b6) wr w'
      have hS0 : S wr.drew := (But.refl _ _ _).drew
      have r1 : ∀ w', S w' → w'.rangeAt F (K * 3) cw.toList := fun w' h => But.range (show But wr.heap.size (· = b6) wr w' from h) hFw hne.1 hr5
      have r2 : ∀ w', S w' → w'.cell? ⟨G, K, none⟩ = some (.bool os) := fun w' h => (World.cell?_of_block (a := ⟨G, K, none⟩) (But.block (show But wr.heap.size (· = b6) wr w' from h) G hGw hne.2)).trans k2
      clear hr5 k2
      refine wp_region_held (S := S) (by kernel_rfl) ?_
      change wpAnyH _ _ _ _ S _ _ _ wr.drew
      obtain ⟨V0, hV0⟩ : ∃ q, wr.drew = q := ⟨_, rfl⟩
      have v6 : V0.heap[b6]? = some (.cells zw 37) := by rw [← hV0]; exact x6
      have hVb : Below wr.heap.size wr V0 := by rw [← hV0]; exact (Below.refl _ _).drew
      rw [hV0] at hS0 ⊢
      clear hV0 x6
      change At 0 _
      iterate 5 (first | (apply tkA; (case hi => (simp only [List.getElem?_toArray, List.getElem?_cons_zero, List.getElem?_cons_succ]; rfl)); (case hw => rfl); (case hy => (intro w' hSw; (try simp only [S] at hSw); go_simp; (try with_reducible rfl))); (case hs => kernel_rfl); (case hf => kernel_rfl); (case hr => kernel_rfl); (case hQ => exact fun _ _ _ h => h); (case hS => assumption); (try simp only [Act.put, List.setIfInBounds_toArray, List.set_cons_zero, List.set_cons_succ, Nat.reduceAdd])) | (apply skA; (case hi => (simp only [List.getElem?_toArray, List.getElem?_cons_zero, List.getElem?_cons_succ]; rfl)); (case hw => rfl); (case hs => kernel_rfl); (case hf => kernel_rfl); (case hr => kernel_rfl); (case hQ => exact fun _ _ _ h => h); (case hS => assumption); (try simp only [Act.put, List.setIfInBounds_toArray, List.set_cons_zero, List.set_cons_succ, Nat.reduceAdd])))
      change wpAnyH _ _ _ _ _ _ _ _ _
      refine wpAnyH_take (i := 5) (oi := ?oi_2) (v := ?v_2) ?ho_2 ?h1_2 ?h2_2 ?h3_2 ?hq_2 (Or.inl ⟨?hw_2, ?hy_2⟩) ?hs_2 ?rest_2; (case h2_2 => kernel_rfl); (case h3_2 => kernel_rfl); (case ho_2 => (simp only [List.getElem?_toArray, List.getElem?_cons_zero, List.getElem?_cons_succ]; rfl)); (case h1_2 => kernel_rfl); (case hq_2 => exact fun _ _ _ h => h); (case hw_2 => rfl); (case hy_2 => (intro w' hSw; refine exec_load_row (x := .tmp 150) ?_ ?_ (r1 w' hSw) Try.underlying37 ?_ hcil <;> rfl)); (case hs_2 => assumption); (try simp only [Act.put, List.setIfInBounds_toArray, List.set_cons_zero, List.set_cons_succ])
      change At 6 _
      iterate 6 (first | (apply tkA; (case hi => (simp only [List.getElem?_toArray, List.getElem?_cons_zero, List.getElem?_cons_succ]; rfl)); (case hw => rfl); (case hy => (intro w' hSw; have q := r2 w' hSw; (try simp only [S] at hSw); go_simp; (try with_reducible rfl))); (case hs => kernel_rfl); (case hf => kernel_rfl); (case hr => kernel_rfl); (case hQ => exact fun _ _ _ h => h); (case hS => assumption); (try simp only [Act.put, List.setIfInBounds_toArray, List.set_cons_zero, List.set_cons_succ, Nat.reduceAdd])) | (apply skA; (case hi => (simp only [List.getElem?_toArray, List.getElem?_cons_zero, List.getElem?_cons_succ]; rfl)); (case hw => rfl); (case hs => kernel_rfl); (case hf => kernel_rfl); (case hr => kernel_rfl); (case hQ => exact fun _ _ _ h => h); (case hS => assumption); (try simp only [Act.put, List.setIfInBounds_toArray, List.set_cons_zero, List.set_cons_succ, Nat.reduceAdd])))
      change wpAnyH _ _ _ _ _ _ _ _ _
      refine wpAnyH_ready (rs := [12]) (by kernel_rfl) (by simp) (AllReadyH.cons (o := ?oo12_19) ?hoo12_19 (fun K hK => ?steponly19) AllReadyH.nil); (case hoo12_19 => (simp only [List.getElem?_toArray, List.getElem?_cons_zero, List.getElem?_cons_succ]; rfl))
      refine step_row rfl 37 (.tmp 6) (.tmp 151) rfl b6 cw rfl rfl _ zw v6 hci hczw hcon ?_
      obtain ⟨U9, hU9⟩ : ∃ q, V0.setRow b6 cw = q := ⟨_, rfl⟩
      have u6 : U9.heap[b6]? = some (.cells cw 37) := by rw [← hU9]; exact setRow_heap _ _ _ _ _ _ v6
      have hS9 : S U9 := by rw [← hU9]; exact but_row hS0 cw
      rw [hU9]
      refine hK.out _ _ hS9 (fun _ => ?_)
      clear hK K
      (try simp only [Act.put, List.setIfInBounds_toArray, List.set_cons_zero, List.set_cons_succ])
      refine wpAnyH_take (i := 13) (oi := ?oi_1) (v := ?v_1) ?ho_1 ?h1_1 ?h2_1 ?h3_1 ?hq_1 (Or.inl ⟨?hw_1, ?hy_1⟩) ?hs_1 ?rest_1; (case h2_1 => kernel_rfl); (case h3_1 => kernel_rfl); (case ho_1 => (simp only [List.getElem?_toArray, List.getElem?_cons_zero, List.getElem?_cons_succ]; rfl)); (case h1_1 => kernel_rfl); (case hq_1 => exact fun _ _ _ h => h); (case hw_1 => rfl); (case hy_1 => (intro w' hSw; (try simp only [S] at hSw); go_simp; (try with_reducible rfl))); (case hs_1 => assumption); (try simp only [Act.put, List.setIfInBounds_toArray, List.set_cons_zero, List.set_cons_succ])
      refine wpAnyH_done (by kernel_rfl) ?_ _
      have hBU : But wr.heap.size (· = b6) wr U9 := hS9
      have HE := Lib.hid (And.intro hBU (And.intro u6 hU9))
      clear hS0 hS9 r1 r2 hVb hBU v6 hU9 u6
      go_wp2_with fail
      obtain ⟨hBU, u6, hU9⟩ := HE.out
      have hiv9 : IvAt U9 U9.heap.size A8 m8 c8 (RO.getD wy0).ends := by
        refine IvAt.but6 (g := b6) HF.out.2.1.iv (fun b o i e => ?_) hBU
        have := HF.out.2.1.far b o i e
        have := HB6.out.1
        omega
      have hB9 : Below w.heap.size w U9 := HF.out.1.trans (hBU.below (by have := HF.out.1.size; exact this) (fun q e => by rw [e]; exact hb46.1))
      refine bodyPost_ret ((results_cell_tmp Try.results31 _ _ _).trans (by simp only [Act.put]; rw [show (asAddr _ : Sem Addr).run Try.prog U9 = .ok ⟨b6, 0, none⟩ U9 from rfl]; simp only [Result.andThen]; rw [run_loadVar_row (P := Try.prog) U9 _ _ 37 _ _ _ u6 Try.underlying37 rfl hci])) rfl ?_
      exact ⟨A8, m8, c8, by rw [← HF.out.2.2.1, ← HF.out.2.2.2.1, ← HF.out.2.2.2.2, ← HOS.out]; rfl, hiv9, fun b o i e => by have := HF.out.2.1.far b o i e; have := HB6.out.2.2.2; omega, hB9⟩
    · have hi1 : (k : Int) < (N : Int) := by omega
      have hkp : k < (plc l).length := by rw [HKN.out.2.1]; exact hlt
      have hpbr := plc_rng hkp
      have hcst := cur_start l wd tl all k
      have HC0 := Lib.hid hcst
      obtain ⟨pb, hpb⟩ : ∃ q, plcAt l k = q := ⟨_, rfl⟩
      rw [hpb] at hpbr
      have hpk : (plc l)[k]? = some pb := by rw [← hpb]; unfold plcAt; rw [List.getElem?_eq_getElem hkp]; rfl
      have HP := Lib.hid (And.intro hpb (And.intro hpk hkp))
      clear hcst hpb hpk hkp
      go_upto_region 9 with (fail)
      rename World => wo
      go_loopw [12] (fun s12 wr => ∃ i : Nat, i ≤ k ∧ s12 = .int .i64 i ∧ G < wr.heap.size ∧ Hid (Below F Z wr ∧ ∃ cs ds, RRep wr F G N (gst (rW l wd tl all) k (curW l wd tl all k i)) cs ds)) (fun i _ => k - (intOf i).toNat)
      case atStart => exact ⟨0, by omega, rfl, hGr, Lib.hid (by rw [HC0.out]; exact HK.out)⟩
      case round =>
        clear HK hGr
        obtain ⟨i, hik, rfl, hGr, HI⟩ := hrel
        by_cases hilt : i < k
        rotate_left
        · obtain rfl : i = k := by omega
          have hii : ¬ (i : Int) < (i : Int) := by omega
          have hgi : IntKind.i64.wrap ((i : Int) + 1) = ((i + 1 : Nat) : Int) := by rw [wrap_small _ (by omega) (by omega)]; omega
          have hce := cur_end l wd tl all hk1
          have HZ2 := Lib.hid (show Below F Z wr ∧ ∃ cs ds, RRep wr F G N (gst (rW l wd tl all) (i + 1) none) cs ds from ⟨HI.out.1, by
            obtain ⟨cs, ds, hr⟩ := HI.out.2
            rw [← hce] at hr
            exact ⟨cs, ds, hr.list (fun j _ => (gst_up j).symm)⟩⟩)
          clear HI hce
          go_wp2_with fail
          go_roundw
          case rel => exact ⟨i + 1, by omega, by omega, by go_num, hGr, HZ2⟩
          case measure => simp [intOf]; omega
        · have hii : (i : Int) < (k : Int) := by omega
          have hi0 : (0 : Int) ≤ (i : Int) := by omega
          have hk0 : (0 : Int) ≤ (k : Int) := by omega
          have hiN : (i : Int) < (N : Int) := by omega
          have hgi : IntKind.i64.wrap ((i : Int) + 1) = ((i + 1 : Nat) : Int) := by rw [wrap_small _ (by omega) (by omega)]; omega
          obtain ⟨pa, hpa⟩ : ∃ q, plcAt l i = q := ⟨_, rfl⟩
          have hip : i < (plc l).length := by rw [HKN.out.2.1]; omega
          have hpi : (plc l)[i]? = some pa := by rw [← hpa]; unfold plcAt; rw [List.getElem?_eq_getElem hip]; rfl
          have hbZw := HI.out.1
          have hbww : Below w.heap.size w wr := HZ.out.1.trans (hbZw.mono HB6.out.2.2.2)
          have hcl := fun (U : World) (hb : Below wr.heap.size wr U) => HRL.out pa pb U (bNext hbww hb)
          obtain ⟨cv, hcv⟩ : ∃ q, coV l wd tl pa pb = q := ⟨_, rfl⟩
          simp only [hcv] at hcl
          have hci : (Try.prog.info? 63).map (·.size) = some cv.size := by rw [← hcv]; unfold coV; split <;> exact co_info _ _ _ _
          have hczs : coz.size = cv.size := by rw [← hcv]; unfold coV; split <;> rfl
          have hco : cv.all (·.oneCell') = true := by rw [← hcv]; unfold coV; split <;> exact co_one _ _ _ _
          have w4 := bBlk hbZw (by have := (Array.getElem?_eq_some_iff.1 HZ.out.2.2.1).1; exact HB6.out.2.1) HZ.out.2.2.1
          have l4 := (Array.getElem?_eq_some_iff.1 w4).1
          have hr4 : wr.rangeAt b4 0 [.int .i64 sw, .int .i64 sh, .int .i64 st, .int .i64 sc, .int .i64 si] := range_blk w4
          have cA := (hbZw.cell (p := ⟨bP, oP + i, none⟩) HB6.out.2.2.1).trans (HZ.out.2.2.2.2 i pa hpi)
          have cB := (hbZw.cell (p := ⟨bP, oP + k, none⟩) HB6.out.2.2.1).trans (HZ.out.2.2.2.2 k pb HP.out.2.1)
          have lP : bP < wr.heap.size := by have := HB6.out.2.2.1; omega
          have hst5 : (Try.prog.info? 24).map (·.size) = some [Value.int .i64 sw, .int .i64 sh, .int .i64 st, .int .i64 sc, .int .i64 si].length := by show _ = some 5; kernel_rfl
          have HPA := Lib.hid (And.intro hpa (And.intro hip (And.intro hcv hbww)))
          clear hpa hpi hip hcv hbZw hbww w4
          go_upto_region 11 with (fail)
          go_cut [13] from 38 to 48 (fun s13 wx => ∃ g, s13 = .pointer (some ⟨g, 0, none⟩) ∧ wx.heap[g]? = some (.cells cv 63) ∧ wr.heap.size ≤ g ∧ Below wr.heap.size wr wx)
          case first =>
            let S : World → Prop := fun w' => Below wr.heap.size wr w'
            have hS0 : S wr.drew := (Below.refl _ _).drew
            have r1 : ∀ w', S w' → w'.cell? ⟨bP, oP + i, none⟩ = some (.int .i64 pa) := fun w' h => (Below.cell h (p := ⟨bP, oP + i, none⟩) lP).trans cA
            have r2 : ∀ w', S w' → w'.cell? ⟨bP, oP + k, none⟩ = some (.int .i64 pb) := fun w' h => (Below.cell h (p := ⟨bP, oP + k, none⟩) lP).trans cB
            have r3 : ∀ w', S w' → w'.rangeAt b4 0 [.int .i64 sw, .int .i64 sh, .int .i64 st, .int .i64 sc, .int .i64 si] := fun w' h => bRange h l4 hr4
            clear cA cB hr4
            refine wp_region_held (S := S) (by kernel_rfl) ?_
            change wpAnyH _ _ _ _ S _ _ _ wr.drew
            have hA := Ap.start wr 3 1
            obtain ⟨V0, hV0⟩ : ∃ q, wr.drew = q := ⟨_, rfl⟩
            rw [hV0] at hA hS0 ⊢
            clear hV0
            change At 0 _
            iterate 1 (first | (apply tkA; (case hi => (simp only [List.getElem?_toArray, List.getElem?_cons_zero, List.getElem?_cons_succ]; rfl)); (case hw => rfl); (case hy => (intro w' hSw; (try simp only [S] at hSw); go_simp; (try with_reducible rfl))); (case hs => kernel_rfl); (case hf => kernel_rfl); (case hr => kernel_rfl); (case hQ => exact fun _ _ _ h => h); (case hS => assumption); (try simp only [Act.put, List.setIfInBounds_toArray, List.set_cons_zero, List.set_cons_succ, Nat.reduceAdd])) | (apply skA; (case hi => (simp only [List.getElem?_toArray, List.getElem?_cons_zero, List.getElem?_cons_succ]; rfl)); (case hw => rfl); (case hs => kernel_rfl); (case hf => kernel_rfl); (case hr => kernel_rfl); (case hQ => exact fun _ _ _ h => h); (case hS => assumption); (try simp only [Act.put, List.setIfInBounds_toArray, List.set_cons_zero, List.set_cons_succ, Nat.reduceAdd])))
            change wpAnyH _ _ _ _ _ _ _ _ _
            refine wpAnyH_take (i := 1) (oi := ?oi_3) (v := ?v_3) ?ho_3 ?h1_3 ?h2_3 ?h3_3 ?hq_3 (Or.inl ⟨?hw_3, ?hy_3⟩) ?hs_3 ?rest_3; (case h2_3 => kernel_rfl); (case h3_3 => kernel_rfl); (case ho_3 => (simp only [List.getElem?_toArray, List.getElem?_cons_zero, List.getElem?_cons_succ]; rfl)); (case h1_3 => kernel_rfl); (case hq_3 => exact fun _ _ _ h => h); (case hw_3 => rfl); (case hy_3 => (intro w' hSw; refine exec_load_row (x := .tmp 4) ?_ ?_ (r3 w' hSw) Try.underlying24 ?_ hst5 <;> rfl)); (case hs_3 => assumption); (try simp only [Act.put, List.setIfInBounds_toArray, List.set_cons_zero, List.set_cons_succ])
            change At 2 _
            iterate 4 (first | (apply tkA; (case hi => (simp only [List.getElem?_toArray, List.getElem?_cons_zero, List.getElem?_cons_succ]; rfl)); (case hw => rfl); (case hy => (intro w' hSw; have q := r1 w' hSw; (try simp only [S] at hSw); go_simp; (try with_reducible rfl))); (case hs => kernel_rfl); (case hf => kernel_rfl); (case hr => kernel_rfl); (case hQ => exact fun _ _ _ h => h); (case hS => assumption); (try simp only [Act.put, List.setIfInBounds_toArray, List.set_cons_zero, List.set_cons_succ, Nat.reduceAdd])) | (apply skA; (case hi => (simp only [List.getElem?_toArray, List.getElem?_cons_zero, List.getElem?_cons_succ]; rfl)); (case hw => rfl); (case hs => kernel_rfl); (case hf => kernel_rfl); (case hr => kernel_rfl); (case hQ => exact fun _ _ _ h => h); (case hS => assumption); (try simp only [Act.put, List.setIfInBounds_toArray, List.set_cons_zero, List.set_cons_succ, Nat.reduceAdd])))
            change wpAnyH _ _ _ _ _ _ _ _ _
            change At 6 _
            iterate 4 (first | (apply tkA; (case hi => (simp only [List.getElem?_toArray, List.getElem?_cons_zero, List.getElem?_cons_succ]; rfl)); (case hw => rfl); (case hy => (intro w' hSw; have q := r2 w' hSw; (try simp only [S] at hSw); go_simp; (try with_reducible rfl))); (case hs => kernel_rfl); (case hf => kernel_rfl); (case hr => kernel_rfl); (case hQ => exact fun _ _ _ h => h); (case hS => assumption); (try simp only [Act.put, List.setIfInBounds_toArray, List.set_cons_zero, List.set_cons_succ, Nat.reduceAdd])) | (apply skA; (case hi => (simp only [List.getElem?_toArray, List.getElem?_cons_zero, List.getElem?_cons_succ]; rfl)); (case hw => rfl); (case hs => kernel_rfl); (case hf => kernel_rfl); (case hr => kernel_rfl); (case hQ => exact fun _ _ _ h => h); (case hS => assumption); (try simp only [Act.put, List.setIfInBounds_toArray, List.set_cons_zero, List.set_cons_succ, Nat.reduceAdd])))
            change wpAnyH _ _ _ _ _ _ _ _ _
            refine wpAnyH_ready (rs := [10, 11]) (by kernel_rfl) (by simp) (AllReadyH.cons (o := ?oo10_20) ?hoo10_20 (fun K hK => ?stepLN10) (AllReadyH.cons (o := ?oo11_20) ?hoo11_20 (fun K hK => ?stepLN11) AllReadyH.nil)); (case hoo10_20 => (simp only [List.getElem?_toArray, List.getElem?_cons_zero, List.getElem?_cons_succ]; rfl)); (case hoo11_20 => (simp only [List.getElem?_toArray, List.getElem?_cons_zero, List.getElem?_cons_succ]; rfl))
            case stepLN10 =>
              go_simp
              refine Calls.mono (hcl V0 hS0) ?_
              rintro e V1 ⟨rfl, hc1⟩
              have hA2 := hA.call hc1
              refine hK.out _ _ hA2.below (fun _ => ?_)
              clear hK K hA hc1
              (try simp only [Act.put, List.setIfInBounds_toArray, List.set_cons_zero, List.set_cons_succ])
              refine wpAnyH_ready (rs := [11]) (by kernel_rfl) (by simp) (AllReadyH.cons (o := ?oo11_21) ?hoo11_21 (fun K hK => ?steponly21) AllReadyH.nil); (case hoo11_21 => (simp only [List.getElem?_toArray, List.getElem?_cons_zero, List.getElem?_cons_succ]; rfl))
              refine step_new rfl hcz rfl ?_
              refine Ap.goP hA2 ?_
              intro V2 gs hA3
              refine hK.out _ _ hA3.below (fun _ => ?_)
              clear hK K hA2
              (try simp only [Act.put, List.setIfInBounds_toArray, List.set_cons_zero, List.set_cons_succ])
              refine wpAnyH_ready (rs := [12]) (by kernel_rfl) (by simp) (AllReadyH.cons (o := ?oo12_22) ?hoo12_22 (fun K hK => ?steponly22) AllReadyH.nil); (case hoo12_22 => (simp only [List.getElem?_toArray, List.getElem?_cons_zero, List.getElem?_cons_succ]; rfl))
              refine step_row rfl 63 (.tmp 13) (.tmp 48) rfl gs cv rfl rfl _ coz (hA3.blk gs _ (List.Mem.head _)).1 hci hczs hco ?_
              obtain ⟨hb1, -, hblk1, -, hge1⟩ := hA3.row (List.Mem.head _) cv
              refine hK.out _ _ hb1 (fun _ => ?_)
              clear hK K hA3
              (try simp only [Act.put, List.setIfInBounds_toArray, List.set_cons_zero, List.set_cons_succ])
              refine wpAnyH_done (by kernel_rfl) ?_ _
              have HE := Lib.hid (And.intro hblk1 (And.intro hge1 hb1))
              clear hb1 hblk1 hge1 r1 r2 r3 hS0
              go_wp2_with fail
              go_meet
              exact ⟨gs, rfl, HE.out⟩
            case stepLN11 =>
              refine step_new rfl hcz rfl ?_
              refine Ap.goP hA ?_
              intro V1 gs hA2
              refine hK.out _ _ hA2.below (fun _ => ?_)
              clear hK K hA
              (try simp only [Act.put, List.setIfInBounds_toArray, List.set_cons_zero, List.set_cons_succ])
              refine wpAnyH_ready (rs := [10]) (by kernel_rfl) (by simp) (AllReadyH.cons (o := ?oo10_23) ?hoo10_23 (fun K hK => ?steponly23) AllReadyH.nil); (case hoo10_23 => (simp only [List.getElem?_toArray, List.getElem?_cons_zero, List.getElem?_cons_succ]; rfl))
              go_simp
              refine Calls.mono (hcl V1 hA2.below) ?_
              rintro e V2 ⟨rfl, hc1⟩
              have hA3 := hA2.call hc1
              refine hK.out _ _ hA3.below (fun _ => ?_)
              clear hK K hA2 hc1
              (try simp only [Act.put, List.setIfInBounds_toArray, List.set_cons_zero, List.set_cons_succ])
              refine wpAnyH_ready (rs := [12]) (by kernel_rfl) (by simp) (AllReadyH.cons (o := ?oo12_24) ?hoo12_24 (fun K hK => ?steponly24) AllReadyH.nil); (case hoo12_24 => (simp only [List.getElem?_toArray, List.getElem?_cons_zero, List.getElem?_cons_succ]; rfl))
              refine step_row rfl 63 (.tmp 13) (.tmp 48) rfl gs cv rfl rfl _ coz (hA3.blk gs _ (List.Mem.head _)).1 hci hczs hco ?_
              obtain ⟨hb1, -, hblk1, -, hge1⟩ := hA3.row (List.Mem.head _) cv
              refine hK.out _ _ hb1 (fun _ => ?_)
              clear hK K hA3
              (try simp only [Act.put, List.setIfInBounds_toArray, List.set_cons_zero, List.set_cons_succ])
              refine wpAnyH_done (by kernel_rfl) ?_ _
              have HE := Lib.hid (And.intro hblk1 (And.intro hge1 hb1))
              clear hb1 hblk1 hge1 r1 r2 r3 hS0
              go_wp2_with fail
              go_meet
              exact ⟨gs, rfl, HE.out⟩
          case rest =>
          obtain ⟨gc, rfl, y13, hgc, hbx⟩ := hcut
          rename World => Wc
          obtain ⟨ok, hok⟩ : ∃ q, bx l pa pb = q := ⟨_, rfl⟩
          obtain ⟨D, hD⟩ : ∃ q, lineD l wd tl pa pb = q := ⟨_, rfl⟩
          have hDb := lineD_bd l wd tl pa pb
          have hDo := @lineD_over l wd tl pa pb
          rw [hD] at hDb hDo
          have hcvf : cv = coC (if ok then D.n else 0) (ok && D.over) (ok && D.may) ok := by
            rw [← HPA.out.2.2.1, ← hok, ← hD]
            unfold coV
            split
            · rename_i hb; rw [hb]; simp
            · rename_i hb
              have hb' : bx l pa pb = false := by simpa using hb
              rw [hb']; rfl
          obtain ⟨cn, hcn⟩ : ∃ q, (if ok then D.n else 0) = q := ⟨_, rfl⟩
          obtain ⟨co, hco2⟩ : ∃ q, (ok && D.over) = q := ⟨_, rfl⟩
          obtain ⟨cm, hcm⟩ : ∃ q, (ok && D.may) = q := ⟨_, rfl⟩
          rw [hcn, hco2, hcm] at hcvf
          rw [hcvf] at y13
          have q0 : Wc.cell? ⟨gc, 0, none⟩ = some (.int .i64 cn) := blk_cell y13 rfl
          have q1 : Wc.cell? ⟨gc, 1, none⟩ = some (.bool co) := blk_cell y13 rfl
          have q2 : Wc.cell? ⟨gc, 2, none⟩ = some (.bool cm) := blk_cell y13 rfl
          have q3 : Wc.cell? ⟨gc, 3, none⟩ = some (.bool ok) := blk_cell y13 rfl
          have lgc := (Array.getElem?_eq_some_iff.1 y13).1
          obtain ⟨hbZw, cs, ds, hrep⟩ := HI.out
          have hrepC := hrep.nxt hbx
          have hbC : Below F Z Wc := hbZw.trans (hbx.mono (by omega))
          have hcel2 := hrepC.cel2 i (by omega)
          rw [gst_lt hilt] at hcel2
          obtain ⟨rx, hrx⟩ : ∃ q, rW l wd tl all i = q := ⟨_, rfl⟩
          rw [hrx] at hcel2
          obtain ⟨th, hth⟩ : ∃ q, rx.isSome = q := ⟨_, rfl⟩
          rw [hth] at hcel2
          have kT : Wc.cell? ⟨G, i, none⟩ = some (.bool th) := blk_cell hrepC.blk2 hcel2
          have lGC : G < Wc.heap.size := (Array.getElem?_eq_some_iff.1 hrepC.blk2).1
          have HC := Lib.hid (And.intro hrepC (And.intro hbC (And.intro hrx (And.intro hth (And.intro hok (And.intro hD (And.intro hcn (And.intro hco2 (And.intro hcm (And.intro hDb (And.intro hDo y13)))))))))))
          have cBC := (hbx.cell (p := ⟨bP, oP + k, none⟩) lP).trans cB
          have lPC : bP < Wc.heap.size := by have := hbx.size; omega
          clear hrep hrepC hbC hbZw hcel2 hrx hth hok hD hcn hco2 hcm hDb hDo hcvf y13 hbx cA cB hr4 hcl hci hczs hco HI lP
          (try simp only [Act.put, List.setIfInBounds_toArray, List.set_cons_zero, List.set_cons_succ])
          go_upto_region 12 with (fail)
          (try simp only [Act.put, List.setIfInBounds_toArray, List.set_cons_zero, List.set_cons_succ])
          go_cut [70] from 49 to 70 (fun s70 wx => s70 = .bool (!th || (!ok || (ft && (co || !cm)))) ∧ wx = Wc)
          case first =>
            clear HC
            cases th with
            | false =>
              go_wp2_with fail
              go_meet
              exact ⟨rfl, rfl⟩
            | true =>
              cases ok with
              | false =>
                go_wp2_with fail
                go_meet
                exact ⟨rfl, rfl⟩
              | true =>
                cases ft with
                | false =>
                  go_wp2_with fail
                  go_meet
                  exact ⟨rfl, rfl⟩
                | true =>
                  cases co with
                  | true =>
                    go_wp2_with fail
                    go_meet
                    exact ⟨rfl, rfl⟩
                  | false =>
                    go_wp2_with fail
                    go_meet
                    exact ⟨by simp, rfl⟩
          case rest =>
          obtain ⟨rfl, rfl⟩ := hcut
          clear kT q2 q3
          obtain ⟨sk, hsk⟩ : ∃ q, (!th || (!ok || (ft && (co || !cm)))) = q := ⟨_, rfl⟩
          rw [hsk]
          have HSK := Lib.hid hsk
          clear hsk
          rename World => Wc
          cases sk with
          | true =>
            have hcs : curW l wd tl all k (i + 1) = curW l wd tl all k i := by
              obtain ⟨-, -, hrx, hth, hok, hD, hcn, hco2, hcm, -, hDo, -⟩ := HC.out
              refine cur_skip hilt ?_
              rw [HPA.out.1, HP.out.1, hrx, hok, hD]
              have hs := HSK.out
              have hft := HFT.out
              cases th with
              | false =>
                left
                cases rx with
                | none => rfl
                | some x => cases hth
              | true =>
                right
                cases ok with
                | false => left; rfl
                | true =>
                  right
                  cases all with
                  | true => rw [← hft] at hs; simp at hs
                  | false =>
                    refine ⟨rfl, ?_, rfl⟩
                    rw [← hft, ← hco2, ← hcm] at hs
                    cases hov : D.over with
                    | true => exact (hDo hov).2.2
                    | false => rw [hov] at hs; simpa using hs
            have HZ2 := Lib.hid (show Below F Z Wc ∧ ∃ cs ds, RRep Wc F G N (gst (rW l wd tl all) k (curW l wd tl all k (i + 1))) cs ds from ⟨HC.out.2.1, by rw [hcs]; exact ⟨cs, ds, HC.out.1⟩⟩)
            clear HC hcs HSK q0 q1 cBC
            go_wp2_with fail
            go_roundw
            case rel => exact ⟨i + 1, by omega, by go_num, lGC, HZ2⟩
            case measure => simp [intOf]; omega
          | false =>
          obtain ⟨x, hxr, hbx1, hmay⟩ : ∃ x, rx = some x ∧ ok = true ∧ (D.may = true ∨ all = true) := by
            obtain ⟨-, -, hrx, hth, hok, hD, hcn, hco2, hcm, -, hDo, -⟩ := HC.out
            have hs := HSK.out
            have hft := HFT.out
            cases rx with
            | none => rw [← hth] at hs; simp at hs
            | some x =>
              cases ok with
              | false => rw [← hth] at hs; simp at hs
              | true =>
                refine ⟨x, rfl, rfl, ?_⟩
                cases all with
                | true => right; rfl
                | false =>
                  left
                  rw [← hth, ← hft, ← hcm] at hs
                  cases hm : D.may with
                  | true => rfl
                  | false => rw [hm] at hs; simp at hs
          have hcs := cur_step (l := l) (wd := wd) (tl := tl) (all := all) (i := i) (k := k) (x := x) hilt (HC.out.2.2.1.trans hxr) (by rw [HPA.out.1, HP.out.1, HC.out.2.2.2.2.1, hbx1]) (by rw [HPA.out.1, HP.out.1, HC.out.2.2.2.2.2.1]; exact hmay)
          rw [HPA.out.1, HP.out.1] at hcs
          unfold withW at hcs
          rw [HC.out.2.2.2.2.2.1] at hcs
          have hcnD : cn = D.n := by rw [← HC.out.2.2.2.2.2.2.1, hbx1, if_pos rfl]
          have hcoD : co = D.over := by rw [← HC.out.2.2.2.2.2.2.2.1, hbx1, Bool.true_and]
          have hxo := rW_ok (l := l) (wd := wd) (tl := tl) (all := all) (k := i) HPA.out.2.1 x (HC.out.2.2.1.trans hxr)
          have hco9 := cur_ok (l := l) (wd := wd) (tl := tl) (all := all) (k := k) (i := i) HP.out.2.2 hik
          obtain ⟨hrep, hbC, -, hth, -, -, -, -, -, hDb, -, y13⟩ := HC.out
          have hcel := hrep.cel i (by omega)
          rw [gst_lt hilt, HC.out.2.2.1, hxr, Option.getD_some] at hcel
          obtain ⟨A0, m0, c0, e0, e1, e2, hiv0⟩ := hcel
          obtain ⟨cur, hcur⟩ : ∃ q, curW l wd tl all k i = q := ⟨_, rfl⟩
          rw [hcur] at hcs hco9
          have hcelk := hrep.cel k hlt
          rw [gst_at, hcur] at hcelk
          have hcel2k := hrep.cel2 k hlt
          rw [gst_at, hcur] at hcel2k
          obtain ⟨A9, m9, c9, e90, e91, e92, hiv9⟩ := hcelk
          obtain ⟨⟨ox1, ox2⟩, ⟨ox3, ox4⟩, ox5, ox6⟩ := hxo
          have hm0 : m0 = x.ends.length := hiv0.iv.len.symm
          have hm0k : m0 ≤ 602 := by omega
          have hlN := HKN.out.2.2
          rw [hlN] at ox6
          obtain ⟨TT, hTT⟩ : ∃ q, x.total + D.n = q := ⟨_, rfl⟩
          have g6 : IntKind.i64.wrap (x.total + cn) = TT := by rw [hcnD, hTT]; exact wrap_small _ (by omega) (by omega)
          obtain ⟨xo, hxoe⟩ : ∃ q, x.over = q := ⟨_, rfl⟩
          have hxor : 0 ≤ xo ∧ xo ≤ 1000000 := by omega
          obtain ⟨XO, hXO⟩ : ∃ q, (xo + if D.over then 1 else 0) = q := ⟨_, rfl⟩
          rw [hxoe, hTT, hXO] at hcs
          rw [hxoe] at e2
          have hpbr2 : -1 ≤ pb ∧ pb ≤ 600 := by omega
          have hwl : (∀ z ∈ x.ends ++ [pb], -9223372036854775808 ≤ z ∧ z ≤ 9223372036854775807) ∧ (x.ends ++ [pb]).length = m0 + 1 := by
            refine ⟨fun z hz => ?_, by rw [List.length_append, ← hm0]; rfl⟩
            rcases List.mem_append.1 hz with hz | hz
            · have := ox6 z hz; omega
            · rw [List.mem_singleton.1 hz]; omega
          have hm9 : m9 ≤ 1000000 := by
            have h1 := hiv9.iv.len
            cases hcc : cur with
            | none => rw [hcc] at h1; simp [wy0] at h1; omega
            | some y => have := (hco9 y hcc).2.2.1; rw [hcc] at h1; simp at h1; omega
          have HEN := Lib.hid (And.intro (ivs_append x.ends [pb]).symm hwl)
          have d0 : Wc.cell? ⟨F, i * 3, none⟩ = some (.slice A0 m0 c0) := blk_cell hrep.blk e0
          have d1 : Wc.cell? ⟨F, i * 3 + 1, none⟩ = some (.int .i64 x.total) := blk_cell hrep.blk e1
          have d2 : Wc.cell? ⟨F, i * 3 + 2, none⟩ = some (.int .i64 xo) := blk_cell hrep.blk e2
          have hFC : F < Wc.heap.size := (Array.getElem?_eq_some_iff.1 hrep.blk).1
          have hsrc : Sl Wc Wc.heap.size 1 A0 m0 (ivs x.ends) := hiv0.iv.sl
          have HW := Lib.hid (And.intro hrep (And.intro hbC (And.intro hiv9 (And.intro hcs (And.intro hcur (And.intro (And.intro hXO hcoD) (And.intro (And.intro e90 (And.intro e91 hcel2k)) y13)))))))
          clear hrep hbC hth hDb y13 e0 e1 e2 hiv0 hcs hco9 hcur hcel2k e90 e91 e92 hiv9 ox1 ox2 ox3 ox4 ox5 ox6 hm0 hTT hxoe hXO hwl hcnD hcoD hxr hbx1 hmay HC HSK hlN
          go_upto_region 13 with (fail)
          go_cut [14] from 71 to 97 (fun s14 wx => ApOut Wc (m0 + 1) (x.ends ++ [pb]) TT xo s14 wx)
          case first =>
            let S : World → Prop := fun w' => Below Wc.heap.size Wc w'
            have hS0 : S Wc.drew := (Below.refl _ _).drew
            have r1 : ∀ w', S w' → w'.cell? ⟨F, i * 3, none⟩ = some (.slice A0 m0 c0) := fun w' h => (Below.cell h (p := ⟨F, i * 3, none⟩) hFC).trans d0
            have r2 : ∀ w', S w' → w'.cell? ⟨F, i * 3 + 1, none⟩ = some (.int .i64 x.total) := fun w' h => (Below.cell h (p := ⟨F, i * 3 + 1, none⟩) hFC).trans d1
            have r3 : ∀ w', S w' → w'.cell? ⟨F, i * 3 + 2, none⟩ = some (.int .i64 xo) := fun w' h => (Below.cell h (p := ⟨F, i * 3 + 2, none⟩) hFC).trans d2
            have r4 : ∀ w', S w' → w'.cell? ⟨gc, 0, none⟩ = some (.int .i64 cn) := fun w' h => (Below.cell h (p := ⟨gc, 0, none⟩) lgc).trans q0
            have r5 : ∀ w', S w' → w'.cell? ⟨bP, oP + k, none⟩ = some (.int .i64 pb) := fun w' h => (Below.cell h (p := ⟨bP, oP + k, none⟩) lPC).trans cBC
            clear d0 d1 d2 q0 q1 cBC
            refine wp_region_held (S := S) (by kernel_rfl) ?_
            change wpAnyH _ _ _ _ S _ _ _ Wc.drew
            have hA := Ap.start Wc 3 1
            obtain ⟨V0, hV0⟩ : ∃ q, Wc.drew = q := ⟨_, rfl⟩
            rw [hV0] at hA hS0 ⊢
            clear hV0
            change At 1 _
            iterate 5 (first | (apply tkA; (case hi => (simp only [List.getElem?_toArray, List.getElem?_cons_zero, List.getElem?_cons_succ]; rfl)); (case hw => rfl); (case hy => (intro w' hSw; have q := r1 w' hSw; (try simp only [S] at hSw); go_simp; (try with_reducible rfl))); (case hs => kernel_rfl); (case hf => kernel_rfl); (case hr => kernel_rfl); (case hQ => exact fun _ _ _ h => h); (case hS => assumption); (try simp only [Act.put, List.setIfInBounds_toArray, List.set_cons_zero, List.set_cons_succ, Nat.reduceAdd])) | (apply skA; (case hi => (simp only [List.getElem?_toArray, List.getElem?_cons_zero, List.getElem?_cons_succ]; rfl)); (case hw => rfl); (case hs => kernel_rfl); (case hf => kernel_rfl); (case hr => kernel_rfl); (case hQ => exact fun _ _ _ h => h); (case hS => assumption); (try simp only [Act.put, List.setIfInBounds_toArray, List.set_cons_zero, List.set_cons_succ, Nat.reduceAdd])))
            change wpAnyH _ _ _ _ _ _ _ _ _
            change At 7 _
            iterate 4 (first | (apply tkA; (case hi => (simp only [List.getElem?_toArray, List.getElem?_cons_zero, List.getElem?_cons_succ]; rfl)); (case hw => rfl); (case hy => (intro w' hSw; have q := r5 w' hSw; (try simp only [S] at hSw); go_simp; (try with_reducible rfl))); (case hs => kernel_rfl); (case hf => kernel_rfl); (case hr => kernel_rfl); (case hQ => exact fun _ _ _ h => h); (case hS => assumption); (try simp only [Act.put, List.setIfInBounds_toArray, List.set_cons_zero, List.set_cons_succ, Nat.reduceAdd])) | (apply skA; (case hi => (simp only [List.getElem?_toArray, List.getElem?_cons_zero, List.getElem?_cons_succ]; rfl)); (case hw => rfl); (case hs => kernel_rfl); (case hf => kernel_rfl); (case hr => kernel_rfl); (case hQ => exact fun _ _ _ h => h); (case hS => assumption); (try simp only [Act.put, List.setIfInBounds_toArray, List.set_cons_zero, List.set_cons_succ, Nat.reduceAdd])))
            change wpAnyH _ _ _ _ _ _ _ _ _
            change At 13 _
            iterate 5 (first | (apply tkA; (case hi => (simp only [List.getElem?_toArray, List.getElem?_cons_zero, List.getElem?_cons_succ]; rfl)); (case hw => rfl); (case hy => (intro w' hSw; have q := r2 w' hSw; (try simp only [S] at hSw); go_simp; (try with_reducible rfl))); (case hs => kernel_rfl); (case hf => kernel_rfl); (case hr => kernel_rfl); (case hQ => exact fun _ _ _ h => h); (case hS => assumption); (try simp only [Act.put, List.setIfInBounds_toArray, List.set_cons_zero, List.set_cons_succ, Nat.reduceAdd])) | (apply skA; (case hi => (simp only [List.getElem?_toArray, List.getElem?_cons_zero, List.getElem?_cons_succ]; rfl)); (case hw => rfl); (case hs => kernel_rfl); (case hf => kernel_rfl); (case hr => kernel_rfl); (case hQ => exact fun _ _ _ h => h); (case hS => assumption); (try simp only [Act.put, List.setIfInBounds_toArray, List.set_cons_zero, List.set_cons_succ, Nat.reduceAdd])))
            change wpAnyH _ _ _ _ _ _ _ _ _
            change At 18 _
            iterate 3 (first | (apply tkA; (case hi => (simp only [List.getElem?_toArray, List.getElem?_cons_zero, List.getElem?_cons_succ]; rfl)); (case hw => rfl); (case hy => (intro w' hSw; have q := r4 w' hSw; (try simp only [S] at hSw); go_simp; (try with_reducible rfl))); (case hs => kernel_rfl); (case hf => kernel_rfl); (case hr => kernel_rfl); (case hQ => exact fun _ _ _ h => h); (case hS => assumption); (try simp only [Act.put, List.setIfInBounds_toArray, List.set_cons_zero, List.set_cons_succ, Nat.reduceAdd])) | (apply skA; (case hi => (simp only [List.getElem?_toArray, List.getElem?_cons_zero, List.getElem?_cons_succ]; rfl)); (case hw => rfl); (case hs => kernel_rfl); (case hf => kernel_rfl); (case hr => kernel_rfl); (case hQ => exact fun _ _ _ h => h); (case hS => assumption); (try simp only [Act.put, List.setIfInBounds_toArray, List.set_cons_zero, List.set_cons_succ, Nat.reduceAdd])))
            change wpAnyH _ _ _ _ _ _ _ _ _
            change At 21 _
            iterate 5 (first | (apply tkA; (case hi => (simp only [List.getElem?_toArray, List.getElem?_cons_zero, List.getElem?_cons_succ]; rfl)); (case hw => rfl); (case hy => (intro w' hSw; have q := r3 w' hSw; (try simp only [S] at hSw); go_simp; (try with_reducible rfl))); (case hs => kernel_rfl); (case hf => kernel_rfl); (case hr => kernel_rfl); (case hQ => exact fun _ _ _ h => h); (case hS => assumption); (try simp only [Act.put, List.setIfInBounds_toArray, List.set_cons_zero, List.set_cons_succ, Nat.reduceAdd])) | (apply skA; (case hi => (simp only [List.getElem?_toArray, List.getElem?_cons_zero, List.getElem?_cons_succ]; rfl)); (case hw => rfl); (case hs => kernel_rfl); (case hf => kernel_rfl); (case hr => kernel_rfl); (case hQ => exact fun _ _ _ h => h); (case hS => assumption); (try simp only [Act.put, List.setIfInBounds_toArray, List.set_cons_zero, List.set_cons_succ, Nat.reduceAdd])))
            change wpAnyH _ _ _ _ _ _ _ _ _
            refine wpAnyH_ready (rs := [0, 11, 27]) (by kernel_rfl) (by simp) (AllReadyH.cons (o := ?oo0_25) ?hoo0_25 (fun K hK => ?stepQA0) (AllReadyH.cons (o := ?oo11_25) ?hoo11_25 (fun K hK => ?stepQA11) (AllReadyH.cons (o := ?oo27_25) ?hoo27_25 (fun K hK => ?stepQA27) AllReadyH.nil))); (case hoo0_25 => (simp only [List.getElem?_toArray, List.getElem?_cons_zero, List.getElem?_cons_succ]; rfl)); (case hoo11_25 => (simp only [List.getElem?_toArray, List.getElem?_cons_zero, List.getElem?_cons_succ]; rfl)); (case hoo27_25 => (simp only [List.getElem?_toArray, List.getElem?_cons_zero, List.getElem?_cons_succ]; rfl))
            case stepQA0 =>
              refine step_slice rfl 25 0 #[] rfl (by simp only [List.map_toArray, List.map_nil]; exact ints0 V0) ?_
              refine Ap.go0 hA ?_
              intro V1 ga hA2
              refine hK.out _ _ hA2.below (fun _ => ?_)
              clear hK K hA
              (try simp only [Act.put, List.setIfInBounds_toArray, List.set_cons_zero, List.set_cons_succ])
              have hA := hA2
              clear hA2
              refine wpAnyH_ready (rs := [6, 11, 27]) (by kernel_rfl) (by simp) (AllReadyH.cons (o := ?oo6_26) ?hoo6_26 (fun K hK => ?stepQB6) (AllReadyH.cons (o := ?oo11_26) ?hoo11_26 (fun K hK => ?stepQB11) (AllReadyH.cons (o := ?oo27_26) ?hoo27_26 (fun K hK => ?stepQB27) AllReadyH.nil))); (case hoo6_26 => (simp only [List.getElem?_toArray, List.getElem?_cons_zero, List.getElem?_cons_succ]; rfl)); (case hoo11_26 => (simp only [List.getElem?_toArray, List.getElem?_cons_zero, List.getElem?_cons_succ]; rfl)); (case hoo27_26 => (simp only [List.getElem?_toArray, List.getElem?_cons_zero, List.getElem?_cons_succ]; rfl))
              case stepQB6 =>
                refine step_app _ rfl (.tmp 71) (.tmp 76) 25 rfl (base := Wc.heap.size) Try.underlying25 elemI rfl hA.own rfl (hsrc.below hA.below) (one_ivs _) (by simp only [maxLen]; omega) (by omega) hA.ge ?_
                intro A1 c1 w2 hown1 hg1 hb1 hat1
                simp only [Nat.zero_add, List.nil_append] at hown1 hat1 ⊢
                have hA2 := hA.app hown1 hg1 hb1 hat1
                refine hK.out _ _ hA2.below (fun _ => ?_)
                clear hK K hown1 hg1 hb1 hat1 hA
                (try simp only [Act.put, List.setIfInBounds_toArray, List.set_cons_zero, List.set_cons_succ])
                have hA := hA2
                clear hA2
                refine wpAnyH_ready (rs := [11, 27]) (by kernel_rfl) (by simp) (AllReadyH.cons (o := ?oo11_27) ?hoo11_27 (fun K hK => ?stepQC11) (AllReadyH.cons (o := ?oo27_27) ?hoo27_27 (fun K hK => ?stepQC27) AllReadyH.nil)); (case hoo11_27 => (simp only [List.getElem?_toArray, List.getElem?_cons_zero, List.getElem?_cons_succ]; rfl)); (case hoo27_27 => (simp only [List.getElem?_toArray, List.getElem?_cons_zero, List.getElem?_cons_succ]; rfl))
                case stepQC11 =>
                  refine step_slice rfl 25 1 #[(0, .tmp 81)] rfl (by simp only [List.map_toArray, List.map_cons, List.map_nil]; exact ints1 pb w2) ?_
                  refine Ap.go1 hA ?_
                  intro V3 gb hA2
                  refine hK.out _ _ hA2.below (fun _ => ?_)
                  clear hK K hA
                  (try simp only [Act.put, List.setIfInBounds_toArray, List.set_cons_zero, List.set_cons_succ])
                  have hA := hA2
                  clear hA2
                  refine wpAnyH_ready (rs := [12, 27]) (by kernel_rfl) (by simp) (AllReadyH.cons (o := ?oo12_28) ?hoo12_28 (fun K hK => ?stepQD12) (AllReadyH.cons (o := ?oo27_28) ?hoo27_28 (fun K hK => ?stepQD27) AllReadyH.nil)); (case hoo12_28 => (simp only [List.getElem?_toArray, List.getElem?_cons_zero, List.getElem?_cons_succ]; rfl)); (case hoo27_28 => (simp only [List.getElem?_toArray, List.getElem?_cons_zero, List.getElem?_cons_succ]; rfl))
                  case stepQD12 =>
                    refine step_app _ rfl (.tmp 77) (.tmp 82) 25 rfl (base := Wc.heap.size) Try.underlying25 elemI rfl hA.own rfl (Sl.new (sz := 1) (n := 1) (hA.blk gb _ (List.Mem.head _)).1 rfl) (one_ivs [pb]) (by simp only [maxLen]; omega) (by omega) hA.ge ?_
                    intro A2 c2 w4 hown1 hg1 hb1 hat1
                    have hA2 := hA.app hown1 hg1 hb1 hat1
                    refine hK.out _ _ hA2.below (fun _ => ?_)
                    clear hK K hown1 hg1 hb1 hat1 hA
                    (try simp only [Act.put, List.setIfInBounds_toArray, List.set_cons_zero, List.set_cons_succ])
                    have hA := hA2
                    clear hA2
                    refine wpAnyH_take (i := 26) (oi := ?oi_4) (v := ?v_4) ?ho_4 ?h1_4 ?h2_4 ?h3_4 ?hq_4 (Or.inl ⟨?hw_4, ?hy_4⟩) ?hs_4 ?rest_4; (case h2_4 => kernel_rfl); (case h3_4 => kernel_rfl); (case ho_4 => (simp only [List.getElem?_toArray, List.getElem?_cons_zero, List.getElem?_cons_succ]; rfl)); (case h1_4 => kernel_rfl); (case hq_4 => exact fun _ _ _ h => h); (case hw_4 => rfl); (case hy_4 => (intro w' hSw; refine exec_built (t := 37) (cs := #[.slice A2 (m0 + 1) c2, .int .i64 TT, .int .i64 xo]) (parts := #[(0, .tmp 83), (1, .tmp 91), (2, .tmp 96)]) ?_ ?_ w'; exact rfl; simp only [List.map_toArray, List.map_cons, List.map_nil]; exact built_wy _ _ _ _ _)); (case hs_4 => assumption); (try simp only [Act.put, List.setIfInBounds_toArray, List.set_cons_zero, List.set_cons_succ])

                    refine wpAnyH_ready (rs := [27]) (by kernel_rfl) (by simp) (AllReadyH.cons (o := ?oo27_29) ?hoo27_29 (fun K hK => ?steponly29) AllReadyH.nil); (case hoo27_29 => (simp only [List.getElem?_toArray, List.getElem?_cons_zero, List.getElem?_cons_succ]; rfl))
                    refine step_new rfl hwz rfl ?_
                    refine Ap.goP hA ?_
                    intro V5 gs hA2
                    refine hK.out _ _ hA2.below (fun _ => ?_)
                    clear hK K hA
                    (try simp only [Act.put, List.setIfInBounds_toArray, List.set_cons_zero, List.set_cons_succ])
                    have hA := hA2
                    clear hA2
                    refine wpAnyH_ready (rs := [28]) (by kernel_rfl) (by simp) (AllReadyH.cons (o := ?oo28_30) ?hoo28_30 (fun K hK => ?steponly30) AllReadyH.nil); (case hoo28_30 => (simp only [List.getElem?_toArray, List.getElem?_cons_zero, List.getElem?_cons_succ]; rfl))
                    refine step_row rfl 37 (.tmp 14) (.tmp 97) rfl gs #[.slice A2 (m0 + 1) c2, .int .i64 TT, .int .i64 xo] rfl rfl _ zw (hA.blk gs _ (List.Mem.head _)).1 (wy_inf _ _ _ _ _) (wy_zs hz3 _ _ _ _ _) (wy_on _ _ _ _ _) ?_
                    obtain ⟨hb1, hown1, hblk1, hne1, hge1⟩ := hA.row (List.Mem.head _) #[.slice A2 (m0 + 1) c2, .int .i64 TT, .int .i64 xo]
                    refine hK.out _ _ hb1 (fun _ => ?_)
                    clear hK K hA
                    (try simp only [Act.put, List.setIfInBounds_toArray, List.set_cons_zero, List.set_cons_succ])
                    refine wpAnyH_done (by kernel_rfl) ?_ _
                    have HE := Lib.hid (And.intro hb1 (And.intro hown1 (And.intro hblk1 (And.intro hne1 hge1))))
                    clear hb1 hown1 hblk1 hne1 hge1 r1 r2 r3 r4 r5 hS0
                    go_wp2_with fail
                    go_meet
                    obtain ⟨hb1, hown1, hblk1, hne1, hge1⟩ := HE.out
                    exact ap_out rfl hb1 hown1 hblk1 hne1 hge1 HEN.out.1 HEN.out.2
                  case stepQD27 =>
                    refine step_new rfl hwz rfl ?_
                    refine Ap.goP hA ?_
                    intro V4 gs hA2
                    refine hK.out _ _ hA2.below (fun _ => ?_)
                    clear hK K hA
                    (try simp only [Act.put, List.setIfInBounds_toArray, List.set_cons_zero, List.set_cons_succ])
                    have hA := hA2
                    clear hA2
                    refine wpAnyH_ready (rs := [12]) (by kernel_rfl) (by simp) (AllReadyH.cons (o := ?oo12_31) ?hoo12_31 (fun K hK => ?steponly31) AllReadyH.nil); (case hoo12_31 => (simp only [List.getElem?_toArray, List.getElem?_cons_zero, List.getElem?_cons_succ]; rfl))
                    refine step_app _ rfl (.tmp 77) (.tmp 82) 25 rfl (base := Wc.heap.size) Try.underlying25 elemI rfl hA.own rfl (Sl.new (sz := 1) (n := 1) (hA.blk gb _ (List.Mem.tail _ (List.Mem.head _))).1 rfl) (one_ivs [pb]) (by simp only [maxLen]; omega) (by omega) hA.ge ?_
                    intro A2 c2 w5 hown1 hg1 hb1 hat1
                    have hA2 := hA.app hown1 hg1 hb1 hat1
                    refine hK.out _ _ hA2.below (fun _ => ?_)
                    clear hK K hown1 hg1 hb1 hat1 hA
                    (try simp only [Act.put, List.setIfInBounds_toArray, List.set_cons_zero, List.set_cons_succ])
                    have hA := hA2
                    clear hA2
                    refine wpAnyH_take (i := 26) (oi := ?oi_5) (v := ?v_5) ?ho_5 ?h1_5 ?h2_5 ?h3_5 ?hq_5 (Or.inl ⟨?hw_5, ?hy_5⟩) ?hs_5 ?rest_5; (case h2_5 => kernel_rfl); (case h3_5 => kernel_rfl); (case ho_5 => (simp only [List.getElem?_toArray, List.getElem?_cons_zero, List.getElem?_cons_succ]; rfl)); (case h1_5 => kernel_rfl); (case hq_5 => exact fun _ _ _ h => h); (case hw_5 => rfl); (case hy_5 => (intro w' hSw; refine exec_built (t := 37) (cs := #[.slice A2 (m0 + 1) c2, .int .i64 TT, .int .i64 xo]) (parts := #[(0, .tmp 83), (1, .tmp 91), (2, .tmp 96)]) ?_ ?_ w'; exact rfl; simp only [List.map_toArray, List.map_cons, List.map_nil]; exact built_wy _ _ _ _ _)); (case hs_5 => assumption); (try simp only [Act.put, List.setIfInBounds_toArray, List.set_cons_zero, List.set_cons_succ])

                    refine wpAnyH_ready (rs := [28]) (by kernel_rfl) (by simp) (AllReadyH.cons (o := ?oo28_32) ?hoo28_32 (fun K hK => ?steponly32) AllReadyH.nil); (case hoo28_32 => (simp only [List.getElem?_toArray, List.getElem?_cons_zero, List.getElem?_cons_succ]; rfl))
                    refine step_row rfl 37 (.tmp 14) (.tmp 97) rfl gs #[.slice A2 (m0 + 1) c2, .int .i64 TT, .int .i64 xo] rfl rfl _ zw (hA.blk gs _ (List.Mem.head _)).1 (wy_inf _ _ _ _ _) (wy_zs hz3 _ _ _ _ _) (wy_on _ _ _ _ _) ?_
                    obtain ⟨hb1, hown1, hblk1, hne1, hge1⟩ := hA.row (List.Mem.head _) #[.slice A2 (m0 + 1) c2, .int .i64 TT, .int .i64 xo]
                    refine hK.out _ _ hb1 (fun _ => ?_)
                    clear hK K hA
                    (try simp only [Act.put, List.setIfInBounds_toArray, List.set_cons_zero, List.set_cons_succ])
                    refine wpAnyH_done (by kernel_rfl) ?_ _
                    have HE := Lib.hid (And.intro hb1 (And.intro hown1 (And.intro hblk1 (And.intro hne1 hge1))))
                    clear hb1 hown1 hblk1 hne1 hge1 r1 r2 r3 r4 r5 hS0
                    go_wp2_with fail
                    go_meet
                    obtain ⟨hb1, hown1, hblk1, hne1, hge1⟩ := HE.out
                    exact ap_out rfl hb1 hown1 hblk1 hne1 hge1 HEN.out.1 HEN.out.2
                case stepQC27 =>
                  refine step_new rfl hwz rfl ?_
                  refine Ap.goP hA ?_
                  intro V3 gs hA2
                  refine hK.out _ _ hA2.below (fun _ => ?_)
                  clear hK K hA
                  (try simp only [Act.put, List.setIfInBounds_toArray, List.set_cons_zero, List.set_cons_succ])
                  have hA := hA2
                  clear hA2
                  refine wpAnyH_ready (rs := [11]) (by kernel_rfl) (by simp) (AllReadyH.cons (o := ?oo11_33) ?hoo11_33 (fun K hK => ?steponly33) AllReadyH.nil); (case hoo11_33 => (simp only [List.getElem?_toArray, List.getElem?_cons_zero, List.getElem?_cons_succ]; rfl))
                  refine step_slice rfl 25 1 #[(0, .tmp 81)] rfl (by simp only [List.map_toArray, List.map_cons, List.map_nil]; exact ints1 pb V3) ?_
                  refine Ap.go1 hA ?_
                  intro V4 gb hA2
                  refine hK.out _ _ hA2.below (fun _ => ?_)
                  clear hK K hA
                  (try simp only [Act.put, List.setIfInBounds_toArray, List.set_cons_zero, List.set_cons_succ])
                  have hA := hA2
                  clear hA2
                  refine wpAnyH_ready (rs := [12]) (by kernel_rfl) (by simp) (AllReadyH.cons (o := ?oo12_34) ?hoo12_34 (fun K hK => ?steponly34) AllReadyH.nil); (case hoo12_34 => (simp only [List.getElem?_toArray, List.getElem?_cons_zero, List.getElem?_cons_succ]; rfl))
                  refine step_app _ rfl (.tmp 77) (.tmp 82) 25 rfl (base := Wc.heap.size) Try.underlying25 elemI rfl hA.own rfl (Sl.new (sz := 1) (n := 1) (hA.blk gb _ (List.Mem.head _)).1 rfl) (one_ivs [pb]) (by simp only [maxLen]; omega) (by omega) hA.ge ?_
                  intro A2 c2 w5 hown1 hg1 hb1 hat1
                  have hA2 := hA.app hown1 hg1 hb1 hat1
                  refine hK.out _ _ hA2.below (fun _ => ?_)
                  clear hK K hown1 hg1 hb1 hat1 hA
                  (try simp only [Act.put, List.setIfInBounds_toArray, List.set_cons_zero, List.set_cons_succ])
                  have hA := hA2
                  clear hA2
                  refine wpAnyH_take (i := 26) (oi := ?oi_6) (v := ?v_6) ?ho_6 ?h1_6 ?h2_6 ?h3_6 ?hq_6 (Or.inl ⟨?hw_6, ?hy_6⟩) ?hs_6 ?rest_6; (case h2_6 => kernel_rfl); (case h3_6 => kernel_rfl); (case ho_6 => (simp only [List.getElem?_toArray, List.getElem?_cons_zero, List.getElem?_cons_succ]; rfl)); (case h1_6 => kernel_rfl); (case hq_6 => exact fun _ _ _ h => h); (case hw_6 => rfl); (case hy_6 => (intro w' hSw; refine exec_built (t := 37) (cs := #[.slice A2 (m0 + 1) c2, .int .i64 TT, .int .i64 xo]) (parts := #[(0, .tmp 83), (1, .tmp 91), (2, .tmp 96)]) ?_ ?_ w'; exact rfl; simp only [List.map_toArray, List.map_cons, List.map_nil]; exact built_wy _ _ _ _ _)); (case hs_6 => assumption); (try simp only [Act.put, List.setIfInBounds_toArray, List.set_cons_zero, List.set_cons_succ])

                  refine wpAnyH_ready (rs := [28]) (by kernel_rfl) (by simp) (AllReadyH.cons (o := ?oo28_35) ?hoo28_35 (fun K hK => ?steponly35) AllReadyH.nil); (case hoo28_35 => (simp only [List.getElem?_toArray, List.getElem?_cons_zero, List.getElem?_cons_succ]; rfl))
                  refine step_row rfl 37 (.tmp 14) (.tmp 97) rfl gs #[.slice A2 (m0 + 1) c2, .int .i64 TT, .int .i64 xo] rfl rfl _ zw (hA.blk gs _ (List.Mem.tail _ (List.Mem.head _))).1 (wy_inf _ _ _ _ _) (wy_zs hz3 _ _ _ _ _) (wy_on _ _ _ _ _) ?_
                  obtain ⟨hb1, hown1, hblk1, hne1, hge1⟩ := hA.row (List.Mem.tail _ (List.Mem.head _)) #[.slice A2 (m0 + 1) c2, .int .i64 TT, .int .i64 xo]
                  refine hK.out _ _ hb1 (fun _ => ?_)
                  clear hK K hA
                  (try simp only [Act.put, List.setIfInBounds_toArray, List.set_cons_zero, List.set_cons_succ])
                  refine wpAnyH_done (by kernel_rfl) ?_ _
                  have HE := Lib.hid (And.intro hb1 (And.intro hown1 (And.intro hblk1 (And.intro hne1 hge1))))
                  clear hb1 hown1 hblk1 hne1 hge1 r1 r2 r3 r4 r5 hS0
                  go_wp2_with fail
                  go_meet
                  obtain ⟨hb1, hown1, hblk1, hne1, hge1⟩ := HE.out
                  exact ap_out rfl hb1 hown1 hblk1 hne1 hge1 HEN.out.1 HEN.out.2
              case stepQB11 =>
                refine step_slice rfl 25 1 #[(0, .tmp 81)] rfl (by simp only [List.map_toArray, List.map_cons, List.map_nil]; exact ints1 pb V1) ?_
                refine Ap.go1 hA ?_
                intro V2 gb hA2
                refine hK.out _ _ hA2.below (fun _ => ?_)
                clear hK K hA
                (try simp only [Act.put, List.setIfInBounds_toArray, List.set_cons_zero, List.set_cons_succ])
                have hA := hA2
                clear hA2
                refine wpAnyH_ready (rs := [6, 27]) (by kernel_rfl) (by simp) (AllReadyH.cons (o := ?oo6_36) ?hoo6_36 (fun K hK => ?stepQE6) (AllReadyH.cons (o := ?oo27_36) ?hoo27_36 (fun K hK => ?stepQE27) AllReadyH.nil)); (case hoo6_36 => (simp only [List.getElem?_toArray, List.getElem?_cons_zero, List.getElem?_cons_succ]; rfl)); (case hoo27_36 => (simp only [List.getElem?_toArray, List.getElem?_cons_zero, List.getElem?_cons_succ]; rfl))
                case stepQE6 =>
                  refine step_app _ rfl (.tmp 71) (.tmp 76) 25 rfl (base := Wc.heap.size) Try.underlying25 elemI rfl hA.own rfl (hsrc.below hA.below) (one_ivs _) (by simp only [maxLen]; omega) (by omega) hA.ge ?_
                  intro A1 c1 w3 hown1 hg1 hb1 hat1
                  simp only [Nat.zero_add, List.nil_append] at hown1 hat1 ⊢
                  have hA2 := hA.app hown1 hg1 hb1 hat1
                  refine hK.out _ _ hA2.below (fun _ => ?_)
                  clear hK K hown1 hg1 hb1 hat1 hA
                  (try simp only [Act.put, List.setIfInBounds_toArray, List.set_cons_zero, List.set_cons_succ])
                  have hA := hA2
                  clear hA2
                  refine wpAnyH_ready (rs := [12, 27]) (by kernel_rfl) (by simp) (AllReadyH.cons (o := ?oo12_37) ?hoo12_37 (fun K hK => ?stepQF12) (AllReadyH.cons (o := ?oo27_37) ?hoo27_37 (fun K hK => ?stepQF27) AllReadyH.nil)); (case hoo12_37 => (simp only [List.getElem?_toArray, List.getElem?_cons_zero, List.getElem?_cons_succ]; rfl)); (case hoo27_37 => (simp only [List.getElem?_toArray, List.getElem?_cons_zero, List.getElem?_cons_succ]; rfl))
                  case stepQF12 =>
                    refine step_app _ rfl (.tmp 77) (.tmp 82) 25 rfl (base := Wc.heap.size) Try.underlying25 elemI rfl hA.own rfl (Sl.new (sz := 1) (n := 1) (hA.blk gb _ (List.Mem.head _)).1 rfl) (one_ivs [pb]) (by simp only [maxLen]; omega) (by omega) hA.ge ?_
                    intro A2 c2 w4 hown1 hg1 hb1 hat1
                    have hA2 := hA.app hown1 hg1 hb1 hat1
                    refine hK.out _ _ hA2.below (fun _ => ?_)
                    clear hK K hown1 hg1 hb1 hat1 hA
                    (try simp only [Act.put, List.setIfInBounds_toArray, List.set_cons_zero, List.set_cons_succ])
                    have hA := hA2
                    clear hA2
                    refine wpAnyH_take (i := 26) (oi := ?oi_7) (v := ?v_7) ?ho_7 ?h1_7 ?h2_7 ?h3_7 ?hq_7 (Or.inl ⟨?hw_7, ?hy_7⟩) ?hs_7 ?rest_7; (case h2_7 => kernel_rfl); (case h3_7 => kernel_rfl); (case ho_7 => (simp only [List.getElem?_toArray, List.getElem?_cons_zero, List.getElem?_cons_succ]; rfl)); (case h1_7 => kernel_rfl); (case hq_7 => exact fun _ _ _ h => h); (case hw_7 => rfl); (case hy_7 => (intro w' hSw; refine exec_built (t := 37) (cs := #[.slice A2 (m0 + 1) c2, .int .i64 TT, .int .i64 xo]) (parts := #[(0, .tmp 83), (1, .tmp 91), (2, .tmp 96)]) ?_ ?_ w'; exact rfl; simp only [List.map_toArray, List.map_cons, List.map_nil]; exact built_wy _ _ _ _ _)); (case hs_7 => assumption); (try simp only [Act.put, List.setIfInBounds_toArray, List.set_cons_zero, List.set_cons_succ])

                    refine wpAnyH_ready (rs := [27]) (by kernel_rfl) (by simp) (AllReadyH.cons (o := ?oo27_38) ?hoo27_38 (fun K hK => ?steponly38) AllReadyH.nil); (case hoo27_38 => (simp only [List.getElem?_toArray, List.getElem?_cons_zero, List.getElem?_cons_succ]; rfl))
                    refine step_new rfl hwz rfl ?_
                    refine Ap.goP hA ?_
                    intro V5 gs hA2
                    refine hK.out _ _ hA2.below (fun _ => ?_)
                    clear hK K hA
                    (try simp only [Act.put, List.setIfInBounds_toArray, List.set_cons_zero, List.set_cons_succ])
                    have hA := hA2
                    clear hA2
                    refine wpAnyH_ready (rs := [28]) (by kernel_rfl) (by simp) (AllReadyH.cons (o := ?oo28_39) ?hoo28_39 (fun K hK => ?steponly39) AllReadyH.nil); (case hoo28_39 => (simp only [List.getElem?_toArray, List.getElem?_cons_zero, List.getElem?_cons_succ]; rfl))
                    refine step_row rfl 37 (.tmp 14) (.tmp 97) rfl gs #[.slice A2 (m0 + 1) c2, .int .i64 TT, .int .i64 xo] rfl rfl _ zw (hA.blk gs _ (List.Mem.head _)).1 (wy_inf _ _ _ _ _) (wy_zs hz3 _ _ _ _ _) (wy_on _ _ _ _ _) ?_
                    obtain ⟨hb1, hown1, hblk1, hne1, hge1⟩ := hA.row (List.Mem.head _) #[.slice A2 (m0 + 1) c2, .int .i64 TT, .int .i64 xo]
                    refine hK.out _ _ hb1 (fun _ => ?_)
                    clear hK K hA
                    (try simp only [Act.put, List.setIfInBounds_toArray, List.set_cons_zero, List.set_cons_succ])
                    refine wpAnyH_done (by kernel_rfl) ?_ _
                    have HE := Lib.hid (And.intro hb1 (And.intro hown1 (And.intro hblk1 (And.intro hne1 hge1))))
                    clear hb1 hown1 hblk1 hne1 hge1 r1 r2 r3 r4 r5 hS0
                    go_wp2_with fail
                    go_meet
                    obtain ⟨hb1, hown1, hblk1, hne1, hge1⟩ := HE.out
                    exact ap_out rfl hb1 hown1 hblk1 hne1 hge1 HEN.out.1 HEN.out.2
                  case stepQF27 =>
                    refine step_new rfl hwz rfl ?_
                    refine Ap.goP hA ?_
                    intro V4 gs hA2
                    refine hK.out _ _ hA2.below (fun _ => ?_)
                    clear hK K hA
                    (try simp only [Act.put, List.setIfInBounds_toArray, List.set_cons_zero, List.set_cons_succ])
                    have hA := hA2
                    clear hA2
                    refine wpAnyH_ready (rs := [12]) (by kernel_rfl) (by simp) (AllReadyH.cons (o := ?oo12_40) ?hoo12_40 (fun K hK => ?steponly40) AllReadyH.nil); (case hoo12_40 => (simp only [List.getElem?_toArray, List.getElem?_cons_zero, List.getElem?_cons_succ]; rfl))
                    refine step_app _ rfl (.tmp 77) (.tmp 82) 25 rfl (base := Wc.heap.size) Try.underlying25 elemI rfl hA.own rfl (Sl.new (sz := 1) (n := 1) (hA.blk gb _ (List.Mem.tail _ (List.Mem.head _))).1 rfl) (one_ivs [pb]) (by simp only [maxLen]; omega) (by omega) hA.ge ?_
                    intro A2 c2 w5 hown1 hg1 hb1 hat1
                    have hA2 := hA.app hown1 hg1 hb1 hat1
                    refine hK.out _ _ hA2.below (fun _ => ?_)
                    clear hK K hown1 hg1 hb1 hat1 hA
                    (try simp only [Act.put, List.setIfInBounds_toArray, List.set_cons_zero, List.set_cons_succ])
                    have hA := hA2
                    clear hA2
                    refine wpAnyH_take (i := 26) (oi := ?oi_8) (v := ?v_8) ?ho_8 ?h1_8 ?h2_8 ?h3_8 ?hq_8 (Or.inl ⟨?hw_8, ?hy_8⟩) ?hs_8 ?rest_8; (case h2_8 => kernel_rfl); (case h3_8 => kernel_rfl); (case ho_8 => (simp only [List.getElem?_toArray, List.getElem?_cons_zero, List.getElem?_cons_succ]; rfl)); (case h1_8 => kernel_rfl); (case hq_8 => exact fun _ _ _ h => h); (case hw_8 => rfl); (case hy_8 => (intro w' hSw; refine exec_built (t := 37) (cs := #[.slice A2 (m0 + 1) c2, .int .i64 TT, .int .i64 xo]) (parts := #[(0, .tmp 83), (1, .tmp 91), (2, .tmp 96)]) ?_ ?_ w'; exact rfl; simp only [List.map_toArray, List.map_cons, List.map_nil]; exact built_wy _ _ _ _ _)); (case hs_8 => assumption); (try simp only [Act.put, List.setIfInBounds_toArray, List.set_cons_zero, List.set_cons_succ])

                    refine wpAnyH_ready (rs := [28]) (by kernel_rfl) (by simp) (AllReadyH.cons (o := ?oo28_41) ?hoo28_41 (fun K hK => ?steponly41) AllReadyH.nil); (case hoo28_41 => (simp only [List.getElem?_toArray, List.getElem?_cons_zero, List.getElem?_cons_succ]; rfl))
                    refine step_row rfl 37 (.tmp 14) (.tmp 97) rfl gs #[.slice A2 (m0 + 1) c2, .int .i64 TT, .int .i64 xo] rfl rfl _ zw (hA.blk gs _ (List.Mem.head _)).1 (wy_inf _ _ _ _ _) (wy_zs hz3 _ _ _ _ _) (wy_on _ _ _ _ _) ?_
                    obtain ⟨hb1, hown1, hblk1, hne1, hge1⟩ := hA.row (List.Mem.head _) #[.slice A2 (m0 + 1) c2, .int .i64 TT, .int .i64 xo]
                    refine hK.out _ _ hb1 (fun _ => ?_)
                    clear hK K hA
                    (try simp only [Act.put, List.setIfInBounds_toArray, List.set_cons_zero, List.set_cons_succ])
                    refine wpAnyH_done (by kernel_rfl) ?_ _
                    have HE := Lib.hid (And.intro hb1 (And.intro hown1 (And.intro hblk1 (And.intro hne1 hge1))))
                    clear hb1 hown1 hblk1 hne1 hge1 r1 r2 r3 r4 r5 hS0
                    go_wp2_with fail
                    go_meet
                    obtain ⟨hb1, hown1, hblk1, hne1, hge1⟩ := HE.out
                    exact ap_out rfl hb1 hown1 hblk1 hne1 hge1 HEN.out.1 HEN.out.2
                case stepQE27 =>
                  refine step_new rfl hwz rfl ?_
                  refine Ap.goP hA ?_
                  intro V3 gs hA2
                  refine hK.out _ _ hA2.below (fun _ => ?_)
                  clear hK K hA
                  (try simp only [Act.put, List.setIfInBounds_toArray, List.set_cons_zero, List.set_cons_succ])
                  have hA := hA2
                  clear hA2
                  refine wpAnyH_ready (rs := [6]) (by kernel_rfl) (by simp) (AllReadyH.cons (o := ?oo6_42) ?hoo6_42 (fun K hK => ?steponly42) AllReadyH.nil); (case hoo6_42 => (simp only [List.getElem?_toArray, List.getElem?_cons_zero, List.getElem?_cons_succ]; rfl))
                  refine step_app _ rfl (.tmp 71) (.tmp 76) 25 rfl (base := Wc.heap.size) Try.underlying25 elemI rfl hA.own rfl (hsrc.below hA.below) (one_ivs _) (by simp only [maxLen]; omega) (by omega) hA.ge ?_
                  intro A1 c1 w4 hown1 hg1 hb1 hat1
                  simp only [Nat.zero_add, List.nil_append] at hown1 hat1 ⊢
                  have hA2 := hA.app hown1 hg1 hb1 hat1
                  refine hK.out _ _ hA2.below (fun _ => ?_)
                  clear hK K hown1 hg1 hb1 hat1 hA
                  (try simp only [Act.put, List.setIfInBounds_toArray, List.set_cons_zero, List.set_cons_succ])
                  have hA := hA2
                  clear hA2
                  refine wpAnyH_ready (rs := [12]) (by kernel_rfl) (by simp) (AllReadyH.cons (o := ?oo12_43) ?hoo12_43 (fun K hK => ?steponly43) AllReadyH.nil); (case hoo12_43 => (simp only [List.getElem?_toArray, List.getElem?_cons_zero, List.getElem?_cons_succ]; rfl))
                  refine step_app _ rfl (.tmp 77) (.tmp 82) 25 rfl (base := Wc.heap.size) Try.underlying25 elemI rfl hA.own rfl (Sl.new (sz := 1) (n := 1) (hA.blk gb _ (List.Mem.tail _ (List.Mem.head _))).1 rfl) (one_ivs [pb]) (by simp only [maxLen]; omega) (by omega) hA.ge ?_
                  intro A2 c2 w5 hown1 hg1 hb1 hat1
                  have hA2 := hA.app hown1 hg1 hb1 hat1
                  refine hK.out _ _ hA2.below (fun _ => ?_)
                  clear hK K hown1 hg1 hb1 hat1 hA
                  (try simp only [Act.put, List.setIfInBounds_toArray, List.set_cons_zero, List.set_cons_succ])
                  have hA := hA2
                  clear hA2
                  refine wpAnyH_take (i := 26) (oi := ?oi_9) (v := ?v_9) ?ho_9 ?h1_9 ?h2_9 ?h3_9 ?hq_9 (Or.inl ⟨?hw_9, ?hy_9⟩) ?hs_9 ?rest_9; (case h2_9 => kernel_rfl); (case h3_9 => kernel_rfl); (case ho_9 => (simp only [List.getElem?_toArray, List.getElem?_cons_zero, List.getElem?_cons_succ]; rfl)); (case h1_9 => kernel_rfl); (case hq_9 => exact fun _ _ _ h => h); (case hw_9 => rfl); (case hy_9 => (intro w' hSw; refine exec_built (t := 37) (cs := #[.slice A2 (m0 + 1) c2, .int .i64 TT, .int .i64 xo]) (parts := #[(0, .tmp 83), (1, .tmp 91), (2, .tmp 96)]) ?_ ?_ w'; exact rfl; simp only [List.map_toArray, List.map_cons, List.map_nil]; exact built_wy _ _ _ _ _)); (case hs_9 => assumption); (try simp only [Act.put, List.setIfInBounds_toArray, List.set_cons_zero, List.set_cons_succ])

                  refine wpAnyH_ready (rs := [28]) (by kernel_rfl) (by simp) (AllReadyH.cons (o := ?oo28_44) ?hoo28_44 (fun K hK => ?steponly44) AllReadyH.nil); (case hoo28_44 => (simp only [List.getElem?_toArray, List.getElem?_cons_zero, List.getElem?_cons_succ]; rfl))
                  refine step_row rfl 37 (.tmp 14) (.tmp 97) rfl gs #[.slice A2 (m0 + 1) c2, .int .i64 TT, .int .i64 xo] rfl rfl _ zw (hA.blk gs _ (List.Mem.head _)).1 (wy_inf _ _ _ _ _) (wy_zs hz3 _ _ _ _ _) (wy_on _ _ _ _ _) ?_
                  obtain ⟨hb1, hown1, hblk1, hne1, hge1⟩ := hA.row (List.Mem.head _) #[.slice A2 (m0 + 1) c2, .int .i64 TT, .int .i64 xo]
                  refine hK.out _ _ hb1 (fun _ => ?_)
                  clear hK K hA
                  (try simp only [Act.put, List.setIfInBounds_toArray, List.set_cons_zero, List.set_cons_succ])
                  refine wpAnyH_done (by kernel_rfl) ?_ _
                  have HE := Lib.hid (And.intro hb1 (And.intro hown1 (And.intro hblk1 (And.intro hne1 hge1))))
                  clear hb1 hown1 hblk1 hne1 hge1 r1 r2 r3 r4 r5 hS0
                  go_wp2_with fail
                  go_meet
                  obtain ⟨hb1, hown1, hblk1, hne1, hge1⟩ := HE.out
                  exact ap_out rfl hb1 hown1 hblk1 hne1 hge1 HEN.out.1 HEN.out.2
              case stepQB27 =>
                refine step_new rfl hwz rfl ?_
                refine Ap.goP hA ?_
                intro V2 gs hA2
                refine hK.out _ _ hA2.below (fun _ => ?_)
                clear hK K hA
                (try simp only [Act.put, List.setIfInBounds_toArray, List.set_cons_zero, List.set_cons_succ])
                have hA := hA2
                clear hA2
                refine wpAnyH_ready (rs := [6, 11]) (by kernel_rfl) (by simp) (AllReadyH.cons (o := ?oo6_45) ?hoo6_45 (fun K hK => ?stepQG6) (AllReadyH.cons (o := ?oo11_45) ?hoo11_45 (fun K hK => ?stepQG11) AllReadyH.nil)); (case hoo6_45 => (simp only [List.getElem?_toArray, List.getElem?_cons_zero, List.getElem?_cons_succ]; rfl)); (case hoo11_45 => (simp only [List.getElem?_toArray, List.getElem?_cons_zero, List.getElem?_cons_succ]; rfl))
                case stepQG6 =>
                  refine step_app _ rfl (.tmp 71) (.tmp 76) 25 rfl (base := Wc.heap.size) Try.underlying25 elemI rfl hA.own rfl (hsrc.below hA.below) (one_ivs _) (by simp only [maxLen]; omega) (by omega) hA.ge ?_
                  intro A1 c1 w3 hown1 hg1 hb1 hat1
                  simp only [Nat.zero_add, List.nil_append] at hown1 hat1 ⊢
                  have hA2 := hA.app hown1 hg1 hb1 hat1
                  refine hK.out _ _ hA2.below (fun _ => ?_)
                  clear hK K hown1 hg1 hb1 hat1 hA
                  (try simp only [Act.put, List.setIfInBounds_toArray, List.set_cons_zero, List.set_cons_succ])
                  have hA := hA2
                  clear hA2
                  refine wpAnyH_ready (rs := [11]) (by kernel_rfl) (by simp) (AllReadyH.cons (o := ?oo11_46) ?hoo11_46 (fun K hK => ?steponly46) AllReadyH.nil); (case hoo11_46 => (simp only [List.getElem?_toArray, List.getElem?_cons_zero, List.getElem?_cons_succ]; rfl))
                  refine step_slice rfl 25 1 #[(0, .tmp 81)] rfl (by simp only [List.map_toArray, List.map_cons, List.map_nil]; exact ints1 pb w3) ?_
                  refine Ap.go1 hA ?_
                  intro V4 gb hA2
                  refine hK.out _ _ hA2.below (fun _ => ?_)
                  clear hK K hA
                  (try simp only [Act.put, List.setIfInBounds_toArray, List.set_cons_zero, List.set_cons_succ])
                  have hA := hA2
                  clear hA2
                  refine wpAnyH_ready (rs := [12]) (by kernel_rfl) (by simp) (AllReadyH.cons (o := ?oo12_47) ?hoo12_47 (fun K hK => ?steponly47) AllReadyH.nil); (case hoo12_47 => (simp only [List.getElem?_toArray, List.getElem?_cons_zero, List.getElem?_cons_succ]; rfl))
                  refine step_app _ rfl (.tmp 77) (.tmp 82) 25 rfl (base := Wc.heap.size) Try.underlying25 elemI rfl hA.own rfl (Sl.new (sz := 1) (n := 1) (hA.blk gb _ (List.Mem.head _)).1 rfl) (one_ivs [pb]) (by simp only [maxLen]; omega) (by omega) hA.ge ?_
                  intro A2 c2 w5 hown1 hg1 hb1 hat1
                  have hA2 := hA.app hown1 hg1 hb1 hat1
                  refine hK.out _ _ hA2.below (fun _ => ?_)
                  clear hK K hown1 hg1 hb1 hat1 hA
                  (try simp only [Act.put, List.setIfInBounds_toArray, List.set_cons_zero, List.set_cons_succ])
                  have hA := hA2
                  clear hA2
                  refine wpAnyH_take (i := 26) (oi := ?oi_10) (v := ?v_10) ?ho_10 ?h1_10 ?h2_10 ?h3_10 ?hq_10 (Or.inl ⟨?hw_10, ?hy_10⟩) ?hs_10 ?rest_10; (case h2_10 => kernel_rfl); (case h3_10 => kernel_rfl); (case ho_10 => (simp only [List.getElem?_toArray, List.getElem?_cons_zero, List.getElem?_cons_succ]; rfl)); (case h1_10 => kernel_rfl); (case hq_10 => exact fun _ _ _ h => h); (case hw_10 => rfl); (case hy_10 => (intro w' hSw; refine exec_built (t := 37) (cs := #[.slice A2 (m0 + 1) c2, .int .i64 TT, .int .i64 xo]) (parts := #[(0, .tmp 83), (1, .tmp 91), (2, .tmp 96)]) ?_ ?_ w'; exact rfl; simp only [List.map_toArray, List.map_cons, List.map_nil]; exact built_wy _ _ _ _ _)); (case hs_10 => assumption); (try simp only [Act.put, List.setIfInBounds_toArray, List.set_cons_zero, List.set_cons_succ])

                  refine wpAnyH_ready (rs := [28]) (by kernel_rfl) (by simp) (AllReadyH.cons (o := ?oo28_48) ?hoo28_48 (fun K hK => ?steponly48) AllReadyH.nil); (case hoo28_48 => (simp only [List.getElem?_toArray, List.getElem?_cons_zero, List.getElem?_cons_succ]; rfl))
                  refine step_row rfl 37 (.tmp 14) (.tmp 97) rfl gs #[.slice A2 (m0 + 1) c2, .int .i64 TT, .int .i64 xo] rfl rfl _ zw (hA.blk gs _ (List.Mem.tail _ (List.Mem.head _))).1 (wy_inf _ _ _ _ _) (wy_zs hz3 _ _ _ _ _) (wy_on _ _ _ _ _) ?_
                  obtain ⟨hb1, hown1, hblk1, hne1, hge1⟩ := hA.row (List.Mem.tail _ (List.Mem.head _)) #[.slice A2 (m0 + 1) c2, .int .i64 TT, .int .i64 xo]
                  refine hK.out _ _ hb1 (fun _ => ?_)
                  clear hK K hA
                  (try simp only [Act.put, List.setIfInBounds_toArray, List.set_cons_zero, List.set_cons_succ])
                  refine wpAnyH_done (by kernel_rfl) ?_ _
                  have HE := Lib.hid (And.intro hb1 (And.intro hown1 (And.intro hblk1 (And.intro hne1 hge1))))
                  clear hb1 hown1 hblk1 hne1 hge1 r1 r2 r3 r4 r5 hS0
                  go_wp2_with fail
                  go_meet
                  obtain ⟨hb1, hown1, hblk1, hne1, hge1⟩ := HE.out
                  exact ap_out rfl hb1 hown1 hblk1 hne1 hge1 HEN.out.1 HEN.out.2
                case stepQG11 =>
                  refine step_slice rfl 25 1 #[(0, .tmp 81)] rfl (by simp only [List.map_toArray, List.map_cons, List.map_nil]; exact ints1 pb V2) ?_
                  refine Ap.go1 hA ?_
                  intro V3 gb hA2
                  refine hK.out _ _ hA2.below (fun _ => ?_)
                  clear hK K hA
                  (try simp only [Act.put, List.setIfInBounds_toArray, List.set_cons_zero, List.set_cons_succ])
                  have hA := hA2
                  clear hA2
                  refine wpAnyH_ready (rs := [6]) (by kernel_rfl) (by simp) (AllReadyH.cons (o := ?oo6_49) ?hoo6_49 (fun K hK => ?steponly49) AllReadyH.nil); (case hoo6_49 => (simp only [List.getElem?_toArray, List.getElem?_cons_zero, List.getElem?_cons_succ]; rfl))
                  refine step_app _ rfl (.tmp 71) (.tmp 76) 25 rfl (base := Wc.heap.size) Try.underlying25 elemI rfl hA.own rfl (hsrc.below hA.below) (one_ivs _) (by simp only [maxLen]; omega) (by omega) hA.ge ?_
                  intro A1 c1 w4 hown1 hg1 hb1 hat1
                  simp only [Nat.zero_add, List.nil_append] at hown1 hat1 ⊢
                  have hA2 := hA.app hown1 hg1 hb1 hat1
                  refine hK.out _ _ hA2.below (fun _ => ?_)
                  clear hK K hown1 hg1 hb1 hat1 hA
                  (try simp only [Act.put, List.setIfInBounds_toArray, List.set_cons_zero, List.set_cons_succ])
                  have hA := hA2
                  clear hA2
                  refine wpAnyH_ready (rs := [12]) (by kernel_rfl) (by simp) (AllReadyH.cons (o := ?oo12_50) ?hoo12_50 (fun K hK => ?steponly50) AllReadyH.nil); (case hoo12_50 => (simp only [List.getElem?_toArray, List.getElem?_cons_zero, List.getElem?_cons_succ]; rfl))
                  refine step_app _ rfl (.tmp 77) (.tmp 82) 25 rfl (base := Wc.heap.size) Try.underlying25 elemI rfl hA.own rfl (Sl.new (sz := 1) (n := 1) (hA.blk gb _ (List.Mem.head _)).1 rfl) (one_ivs [pb]) (by simp only [maxLen]; omega) (by omega) hA.ge ?_
                  intro A2 c2 w5 hown1 hg1 hb1 hat1
                  have hA2 := hA.app hown1 hg1 hb1 hat1
                  refine hK.out _ _ hA2.below (fun _ => ?_)
                  clear hK K hown1 hg1 hb1 hat1 hA
                  (try simp only [Act.put, List.setIfInBounds_toArray, List.set_cons_zero, List.set_cons_succ])
                  have hA := hA2
                  clear hA2
                  refine wpAnyH_take (i := 26) (oi := ?oi_11) (v := ?v_11) ?ho_11 ?h1_11 ?h2_11 ?h3_11 ?hq_11 (Or.inl ⟨?hw_11, ?hy_11⟩) ?hs_11 ?rest_11; (case h2_11 => kernel_rfl); (case h3_11 => kernel_rfl); (case ho_11 => (simp only [List.getElem?_toArray, List.getElem?_cons_zero, List.getElem?_cons_succ]; rfl)); (case h1_11 => kernel_rfl); (case hq_11 => exact fun _ _ _ h => h); (case hw_11 => rfl); (case hy_11 => (intro w' hSw; refine exec_built (t := 37) (cs := #[.slice A2 (m0 + 1) c2, .int .i64 TT, .int .i64 xo]) (parts := #[(0, .tmp 83), (1, .tmp 91), (2, .tmp 96)]) ?_ ?_ w'; exact rfl; simp only [List.map_toArray, List.map_cons, List.map_nil]; exact built_wy _ _ _ _ _)); (case hs_11 => assumption); (try simp only [Act.put, List.setIfInBounds_toArray, List.set_cons_zero, List.set_cons_succ])

                  refine wpAnyH_ready (rs := [28]) (by kernel_rfl) (by simp) (AllReadyH.cons (o := ?oo28_51) ?hoo28_51 (fun K hK => ?steponly51) AllReadyH.nil); (case hoo28_51 => (simp only [List.getElem?_toArray, List.getElem?_cons_zero, List.getElem?_cons_succ]; rfl))
                  refine step_row rfl 37 (.tmp 14) (.tmp 97) rfl gs #[.slice A2 (m0 + 1) c2, .int .i64 TT, .int .i64 xo] rfl rfl _ zw (hA.blk gs _ (List.Mem.tail _ (List.Mem.head _))).1 (wy_inf _ _ _ _ _) (wy_zs hz3 _ _ _ _ _) (wy_on _ _ _ _ _) ?_
                  obtain ⟨hb1, hown1, hblk1, hne1, hge1⟩ := hA.row (List.Mem.tail _ (List.Mem.head _)) #[.slice A2 (m0 + 1) c2, .int .i64 TT, .int .i64 xo]
                  refine hK.out _ _ hb1 (fun _ => ?_)
                  clear hK K hA
                  (try simp only [Act.put, List.setIfInBounds_toArray, List.set_cons_zero, List.set_cons_succ])
                  refine wpAnyH_done (by kernel_rfl) ?_ _
                  have HE := Lib.hid (And.intro hb1 (And.intro hown1 (And.intro hblk1 (And.intro hne1 hge1))))
                  clear hb1 hown1 hblk1 hne1 hge1 r1 r2 r3 r4 r5 hS0
                  go_wp2_with fail
                  go_meet
                  obtain ⟨hb1, hown1, hblk1, hne1, hge1⟩ := HE.out
                  exact ap_out rfl hb1 hown1 hblk1 hne1 hge1 HEN.out.1 HEN.out.2
            case stepQA11 =>
              refine step_slice rfl 25 1 #[(0, .tmp 81)] rfl (by simp only [List.map_toArray, List.map_cons, List.map_nil]; exact ints1 pb V0) ?_
              refine Ap.go1 hA ?_
              intro V1 gb hA2
              refine hK.out _ _ hA2.below (fun _ => ?_)
              clear hK K hA
              (try simp only [Act.put, List.setIfInBounds_toArray, List.set_cons_zero, List.set_cons_succ])
              have hA := hA2
              clear hA2
              refine wpAnyH_ready (rs := [0, 27]) (by kernel_rfl) (by simp) (AllReadyH.cons (o := ?oo0_52) ?hoo0_52 (fun K hK => ?stepQH0) (AllReadyH.cons (o := ?oo27_52) ?hoo27_52 (fun K hK => ?stepQH27) AllReadyH.nil)); (case hoo0_52 => (simp only [List.getElem?_toArray, List.getElem?_cons_zero, List.getElem?_cons_succ]; rfl)); (case hoo27_52 => (simp only [List.getElem?_toArray, List.getElem?_cons_zero, List.getElem?_cons_succ]; rfl))
              case stepQH0 =>
                refine step_slice rfl 25 0 #[] rfl (by simp only [List.map_toArray, List.map_nil]; exact ints0 V1) ?_
                refine Ap.go0 hA ?_
                intro V2 ga hA2
                refine hK.out _ _ hA2.below (fun _ => ?_)
                clear hK K hA
                (try simp only [Act.put, List.setIfInBounds_toArray, List.set_cons_zero, List.set_cons_succ])
                have hA := hA2
                clear hA2
                refine wpAnyH_ready (rs := [6, 27]) (by kernel_rfl) (by simp) (AllReadyH.cons (o := ?oo6_53) ?hoo6_53 (fun K hK => ?stepQI6) (AllReadyH.cons (o := ?oo27_53) ?hoo27_53 (fun K hK => ?stepQI27) AllReadyH.nil)); (case hoo6_53 => (simp only [List.getElem?_toArray, List.getElem?_cons_zero, List.getElem?_cons_succ]; rfl)); (case hoo27_53 => (simp only [List.getElem?_toArray, List.getElem?_cons_zero, List.getElem?_cons_succ]; rfl))
                case stepQI6 =>
                  refine step_app _ rfl (.tmp 71) (.tmp 76) 25 rfl (base := Wc.heap.size) Try.underlying25 elemI rfl hA.own rfl (hsrc.below hA.below) (one_ivs _) (by simp only [maxLen]; omega) (by omega) hA.ge ?_
                  intro A1 c1 w3 hown1 hg1 hb1 hat1
                  simp only [Nat.zero_add, List.nil_append] at hown1 hat1 ⊢
                  have hA2 := hA.app hown1 hg1 hb1 hat1
                  refine hK.out _ _ hA2.below (fun _ => ?_)
                  clear hK K hown1 hg1 hb1 hat1 hA
                  (try simp only [Act.put, List.setIfInBounds_toArray, List.set_cons_zero, List.set_cons_succ])
                  have hA := hA2
                  clear hA2
                  refine wpAnyH_ready (rs := [12, 27]) (by kernel_rfl) (by simp) (AllReadyH.cons (o := ?oo12_54) ?hoo12_54 (fun K hK => ?stepQJ12) (AllReadyH.cons (o := ?oo27_54) ?hoo27_54 (fun K hK => ?stepQJ27) AllReadyH.nil)); (case hoo12_54 => (simp only [List.getElem?_toArray, List.getElem?_cons_zero, List.getElem?_cons_succ]; rfl)); (case hoo27_54 => (simp only [List.getElem?_toArray, List.getElem?_cons_zero, List.getElem?_cons_succ]; rfl))
                  case stepQJ12 =>
                    refine step_app _ rfl (.tmp 77) (.tmp 82) 25 rfl (base := Wc.heap.size) Try.underlying25 elemI rfl hA.own rfl (Sl.new (sz := 1) (n := 1) (hA.blk gb _ (List.Mem.head _)).1 rfl) (one_ivs [pb]) (by simp only [maxLen]; omega) (by omega) hA.ge ?_
                    intro A2 c2 w4 hown1 hg1 hb1 hat1
                    have hA2 := hA.app hown1 hg1 hb1 hat1
                    refine hK.out _ _ hA2.below (fun _ => ?_)
                    clear hK K hown1 hg1 hb1 hat1 hA
                    (try simp only [Act.put, List.setIfInBounds_toArray, List.set_cons_zero, List.set_cons_succ])
                    have hA := hA2
                    clear hA2
                    refine wpAnyH_take (i := 26) (oi := ?oi_12) (v := ?v_12) ?ho_12 ?h1_12 ?h2_12 ?h3_12 ?hq_12 (Or.inl ⟨?hw_12, ?hy_12⟩) ?hs_12 ?rest_12; (case h2_12 => kernel_rfl); (case h3_12 => kernel_rfl); (case ho_12 => (simp only [List.getElem?_toArray, List.getElem?_cons_zero, List.getElem?_cons_succ]; rfl)); (case h1_12 => kernel_rfl); (case hq_12 => exact fun _ _ _ h => h); (case hw_12 => rfl); (case hy_12 => (intro w' hSw; refine exec_built (t := 37) (cs := #[.slice A2 (m0 + 1) c2, .int .i64 TT, .int .i64 xo]) (parts := #[(0, .tmp 83), (1, .tmp 91), (2, .tmp 96)]) ?_ ?_ w'; exact rfl; simp only [List.map_toArray, List.map_cons, List.map_nil]; exact built_wy _ _ _ _ _)); (case hs_12 => assumption); (try simp only [Act.put, List.setIfInBounds_toArray, List.set_cons_zero, List.set_cons_succ])

                    refine wpAnyH_ready (rs := [27]) (by kernel_rfl) (by simp) (AllReadyH.cons (o := ?oo27_55) ?hoo27_55 (fun K hK => ?steponly55) AllReadyH.nil); (case hoo27_55 => (simp only [List.getElem?_toArray, List.getElem?_cons_zero, List.getElem?_cons_succ]; rfl))
                    refine step_new rfl hwz rfl ?_
                    refine Ap.goP hA ?_
                    intro V5 gs hA2
                    refine hK.out _ _ hA2.below (fun _ => ?_)
                    clear hK K hA
                    (try simp only [Act.put, List.setIfInBounds_toArray, List.set_cons_zero, List.set_cons_succ])
                    have hA := hA2
                    clear hA2
                    refine wpAnyH_ready (rs := [28]) (by kernel_rfl) (by simp) (AllReadyH.cons (o := ?oo28_56) ?hoo28_56 (fun K hK => ?steponly56) AllReadyH.nil); (case hoo28_56 => (simp only [List.getElem?_toArray, List.getElem?_cons_zero, List.getElem?_cons_succ]; rfl))
                    refine step_row rfl 37 (.tmp 14) (.tmp 97) rfl gs #[.slice A2 (m0 + 1) c2, .int .i64 TT, .int .i64 xo] rfl rfl _ zw (hA.blk gs _ (List.Mem.head _)).1 (wy_inf _ _ _ _ _) (wy_zs hz3 _ _ _ _ _) (wy_on _ _ _ _ _) ?_
                    obtain ⟨hb1, hown1, hblk1, hne1, hge1⟩ := hA.row (List.Mem.head _) #[.slice A2 (m0 + 1) c2, .int .i64 TT, .int .i64 xo]
                    refine hK.out _ _ hb1 (fun _ => ?_)
                    clear hK K hA
                    (try simp only [Act.put, List.setIfInBounds_toArray, List.set_cons_zero, List.set_cons_succ])
                    refine wpAnyH_done (by kernel_rfl) ?_ _
                    have HE := Lib.hid (And.intro hb1 (And.intro hown1 (And.intro hblk1 (And.intro hne1 hge1))))
                    clear hb1 hown1 hblk1 hne1 hge1 r1 r2 r3 r4 r5 hS0
                    go_wp2_with fail
                    go_meet
                    obtain ⟨hb1, hown1, hblk1, hne1, hge1⟩ := HE.out
                    exact ap_out rfl hb1 hown1 hblk1 hne1 hge1 HEN.out.1 HEN.out.2
                  case stepQJ27 =>
                    refine step_new rfl hwz rfl ?_
                    refine Ap.goP hA ?_
                    intro V4 gs hA2
                    refine hK.out _ _ hA2.below (fun _ => ?_)
                    clear hK K hA
                    (try simp only [Act.put, List.setIfInBounds_toArray, List.set_cons_zero, List.set_cons_succ])
                    have hA := hA2
                    clear hA2
                    refine wpAnyH_ready (rs := [12]) (by kernel_rfl) (by simp) (AllReadyH.cons (o := ?oo12_57) ?hoo12_57 (fun K hK => ?steponly57) AllReadyH.nil); (case hoo12_57 => (simp only [List.getElem?_toArray, List.getElem?_cons_zero, List.getElem?_cons_succ]; rfl))
                    refine step_app _ rfl (.tmp 77) (.tmp 82) 25 rfl (base := Wc.heap.size) Try.underlying25 elemI rfl hA.own rfl (Sl.new (sz := 1) (n := 1) (hA.blk gb _ (List.Mem.tail _ (List.Mem.head _))).1 rfl) (one_ivs [pb]) (by simp only [maxLen]; omega) (by omega) hA.ge ?_
                    intro A2 c2 w5 hown1 hg1 hb1 hat1
                    have hA2 := hA.app hown1 hg1 hb1 hat1
                    refine hK.out _ _ hA2.below (fun _ => ?_)
                    clear hK K hown1 hg1 hb1 hat1 hA
                    (try simp only [Act.put, List.setIfInBounds_toArray, List.set_cons_zero, List.set_cons_succ])
                    have hA := hA2
                    clear hA2
                    refine wpAnyH_take (i := 26) (oi := ?oi_13) (v := ?v_13) ?ho_13 ?h1_13 ?h2_13 ?h3_13 ?hq_13 (Or.inl ⟨?hw_13, ?hy_13⟩) ?hs_13 ?rest_13; (case h2_13 => kernel_rfl); (case h3_13 => kernel_rfl); (case ho_13 => (simp only [List.getElem?_toArray, List.getElem?_cons_zero, List.getElem?_cons_succ]; rfl)); (case h1_13 => kernel_rfl); (case hq_13 => exact fun _ _ _ h => h); (case hw_13 => rfl); (case hy_13 => (intro w' hSw; refine exec_built (t := 37) (cs := #[.slice A2 (m0 + 1) c2, .int .i64 TT, .int .i64 xo]) (parts := #[(0, .tmp 83), (1, .tmp 91), (2, .tmp 96)]) ?_ ?_ w'; exact rfl; simp only [List.map_toArray, List.map_cons, List.map_nil]; exact built_wy _ _ _ _ _)); (case hs_13 => assumption); (try simp only [Act.put, List.setIfInBounds_toArray, List.set_cons_zero, List.set_cons_succ])

                    refine wpAnyH_ready (rs := [28]) (by kernel_rfl) (by simp) (AllReadyH.cons (o := ?oo28_58) ?hoo28_58 (fun K hK => ?steponly58) AllReadyH.nil); (case hoo28_58 => (simp only [List.getElem?_toArray, List.getElem?_cons_zero, List.getElem?_cons_succ]; rfl))
                    refine step_row rfl 37 (.tmp 14) (.tmp 97) rfl gs #[.slice A2 (m0 + 1) c2, .int .i64 TT, .int .i64 xo] rfl rfl _ zw (hA.blk gs _ (List.Mem.head _)).1 (wy_inf _ _ _ _ _) (wy_zs hz3 _ _ _ _ _) (wy_on _ _ _ _ _) ?_
                    obtain ⟨hb1, hown1, hblk1, hne1, hge1⟩ := hA.row (List.Mem.head _) #[.slice A2 (m0 + 1) c2, .int .i64 TT, .int .i64 xo]
                    refine hK.out _ _ hb1 (fun _ => ?_)
                    clear hK K hA
                    (try simp only [Act.put, List.setIfInBounds_toArray, List.set_cons_zero, List.set_cons_succ])
                    refine wpAnyH_done (by kernel_rfl) ?_ _
                    have HE := Lib.hid (And.intro hb1 (And.intro hown1 (And.intro hblk1 (And.intro hne1 hge1))))
                    clear hb1 hown1 hblk1 hne1 hge1 r1 r2 r3 r4 r5 hS0
                    go_wp2_with fail
                    go_meet
                    obtain ⟨hb1, hown1, hblk1, hne1, hge1⟩ := HE.out
                    exact ap_out rfl hb1 hown1 hblk1 hne1 hge1 HEN.out.1 HEN.out.2
                case stepQI27 =>
                  refine step_new rfl hwz rfl ?_
                  refine Ap.goP hA ?_
                  intro V3 gs hA2
                  refine hK.out _ _ hA2.below (fun _ => ?_)
                  clear hK K hA
                  (try simp only [Act.put, List.setIfInBounds_toArray, List.set_cons_zero, List.set_cons_succ])
                  have hA := hA2
                  clear hA2
                  refine wpAnyH_ready (rs := [6]) (by kernel_rfl) (by simp) (AllReadyH.cons (o := ?oo6_59) ?hoo6_59 (fun K hK => ?steponly59) AllReadyH.nil); (case hoo6_59 => (simp only [List.getElem?_toArray, List.getElem?_cons_zero, List.getElem?_cons_succ]; rfl))
                  refine step_app _ rfl (.tmp 71) (.tmp 76) 25 rfl (base := Wc.heap.size) Try.underlying25 elemI rfl hA.own rfl (hsrc.below hA.below) (one_ivs _) (by simp only [maxLen]; omega) (by omega) hA.ge ?_
                  intro A1 c1 w4 hown1 hg1 hb1 hat1
                  simp only [Nat.zero_add, List.nil_append] at hown1 hat1 ⊢
                  have hA2 := hA.app hown1 hg1 hb1 hat1
                  refine hK.out _ _ hA2.below (fun _ => ?_)
                  clear hK K hown1 hg1 hb1 hat1 hA
                  (try simp only [Act.put, List.setIfInBounds_toArray, List.set_cons_zero, List.set_cons_succ])
                  have hA := hA2
                  clear hA2
                  refine wpAnyH_ready (rs := [12]) (by kernel_rfl) (by simp) (AllReadyH.cons (o := ?oo12_60) ?hoo12_60 (fun K hK => ?steponly60) AllReadyH.nil); (case hoo12_60 => (simp only [List.getElem?_toArray, List.getElem?_cons_zero, List.getElem?_cons_succ]; rfl))
                  refine step_app _ rfl (.tmp 77) (.tmp 82) 25 rfl (base := Wc.heap.size) Try.underlying25 elemI rfl hA.own rfl (Sl.new (sz := 1) (n := 1) (hA.blk gb _ (List.Mem.tail _ (List.Mem.head _))).1 rfl) (one_ivs [pb]) (by simp only [maxLen]; omega) (by omega) hA.ge ?_
                  intro A2 c2 w5 hown1 hg1 hb1 hat1
                  have hA2 := hA.app hown1 hg1 hb1 hat1
                  refine hK.out _ _ hA2.below (fun _ => ?_)
                  clear hK K hown1 hg1 hb1 hat1 hA
                  (try simp only [Act.put, List.setIfInBounds_toArray, List.set_cons_zero, List.set_cons_succ])
                  have hA := hA2
                  clear hA2
                  refine wpAnyH_take (i := 26) (oi := ?oi_14) (v := ?v_14) ?ho_14 ?h1_14 ?h2_14 ?h3_14 ?hq_14 (Or.inl ⟨?hw_14, ?hy_14⟩) ?hs_14 ?rest_14; (case h2_14 => kernel_rfl); (case h3_14 => kernel_rfl); (case ho_14 => (simp only [List.getElem?_toArray, List.getElem?_cons_zero, List.getElem?_cons_succ]; rfl)); (case h1_14 => kernel_rfl); (case hq_14 => exact fun _ _ _ h => h); (case hw_14 => rfl); (case hy_14 => (intro w' hSw; refine exec_built (t := 37) (cs := #[.slice A2 (m0 + 1) c2, .int .i64 TT, .int .i64 xo]) (parts := #[(0, .tmp 83), (1, .tmp 91), (2, .tmp 96)]) ?_ ?_ w'; exact rfl; simp only [List.map_toArray, List.map_cons, List.map_nil]; exact built_wy _ _ _ _ _)); (case hs_14 => assumption); (try simp only [Act.put, List.setIfInBounds_toArray, List.set_cons_zero, List.set_cons_succ])

                  refine wpAnyH_ready (rs := [28]) (by kernel_rfl) (by simp) (AllReadyH.cons (o := ?oo28_61) ?hoo28_61 (fun K hK => ?steponly61) AllReadyH.nil); (case hoo28_61 => (simp only [List.getElem?_toArray, List.getElem?_cons_zero, List.getElem?_cons_succ]; rfl))
                  refine step_row rfl 37 (.tmp 14) (.tmp 97) rfl gs #[.slice A2 (m0 + 1) c2, .int .i64 TT, .int .i64 xo] rfl rfl _ zw (hA.blk gs _ (List.Mem.head _)).1 (wy_inf _ _ _ _ _) (wy_zs hz3 _ _ _ _ _) (wy_on _ _ _ _ _) ?_
                  obtain ⟨hb1, hown1, hblk1, hne1, hge1⟩ := hA.row (List.Mem.head _) #[.slice A2 (m0 + 1) c2, .int .i64 TT, .int .i64 xo]
                  refine hK.out _ _ hb1 (fun _ => ?_)
                  clear hK K hA
                  (try simp only [Act.put, List.setIfInBounds_toArray, List.set_cons_zero, List.set_cons_succ])
                  refine wpAnyH_done (by kernel_rfl) ?_ _
                  have HE := Lib.hid (And.intro hb1 (And.intro hown1 (And.intro hblk1 (And.intro hne1 hge1))))
                  clear hb1 hown1 hblk1 hne1 hge1 r1 r2 r3 r4 r5 hS0
                  go_wp2_with fail
                  go_meet
                  obtain ⟨hb1, hown1, hblk1, hne1, hge1⟩ := HE.out
                  exact ap_out rfl hb1 hown1 hblk1 hne1 hge1 HEN.out.1 HEN.out.2
              case stepQH27 =>
                refine step_new rfl hwz rfl ?_
                refine Ap.goP hA ?_
                intro V2 gs hA2
                refine hK.out _ _ hA2.below (fun _ => ?_)
                clear hK K hA
                (try simp only [Act.put, List.setIfInBounds_toArray, List.set_cons_zero, List.set_cons_succ])
                have hA := hA2
                clear hA2
                refine wpAnyH_ready (rs := [0]) (by kernel_rfl) (by simp) (AllReadyH.cons (o := ?oo0_62) ?hoo0_62 (fun K hK => ?steponly62) AllReadyH.nil); (case hoo0_62 => (simp only [List.getElem?_toArray, List.getElem?_cons_zero, List.getElem?_cons_succ]; rfl))
                refine step_slice rfl 25 0 #[] rfl (by simp only [List.map_toArray, List.map_nil]; exact ints0 V2) ?_
                refine Ap.go0 hA ?_
                intro V3 ga hA2
                refine hK.out _ _ hA2.below (fun _ => ?_)
                clear hK K hA
                (try simp only [Act.put, List.setIfInBounds_toArray, List.set_cons_zero, List.set_cons_succ])
                have hA := hA2
                clear hA2
                refine wpAnyH_ready (rs := [6]) (by kernel_rfl) (by simp) (AllReadyH.cons (o := ?oo6_63) ?hoo6_63 (fun K hK => ?steponly63) AllReadyH.nil); (case hoo6_63 => (simp only [List.getElem?_toArray, List.getElem?_cons_zero, List.getElem?_cons_succ]; rfl))
                refine step_app _ rfl (.tmp 71) (.tmp 76) 25 rfl (base := Wc.heap.size) Try.underlying25 elemI rfl hA.own rfl (hsrc.below hA.below) (one_ivs _) (by simp only [maxLen]; omega) (by omega) hA.ge ?_
                intro A1 c1 w4 hown1 hg1 hb1 hat1
                simp only [Nat.zero_add, List.nil_append] at hown1 hat1 ⊢
                have hA2 := hA.app hown1 hg1 hb1 hat1
                refine hK.out _ _ hA2.below (fun _ => ?_)
                clear hK K hown1 hg1 hb1 hat1 hA
                (try simp only [Act.put, List.setIfInBounds_toArray, List.set_cons_zero, List.set_cons_succ])
                have hA := hA2
                clear hA2
                refine wpAnyH_ready (rs := [12]) (by kernel_rfl) (by simp) (AllReadyH.cons (o := ?oo12_64) ?hoo12_64 (fun K hK => ?steponly64) AllReadyH.nil); (case hoo12_64 => (simp only [List.getElem?_toArray, List.getElem?_cons_zero, List.getElem?_cons_succ]; rfl))
                refine step_app _ rfl (.tmp 77) (.tmp 82) 25 rfl (base := Wc.heap.size) Try.underlying25 elemI rfl hA.own rfl (Sl.new (sz := 1) (n := 1) (hA.blk gb _ (List.Mem.tail _ (List.Mem.head _))).1 rfl) (one_ivs [pb]) (by simp only [maxLen]; omega) (by omega) hA.ge ?_
                intro A2 c2 w5 hown1 hg1 hb1 hat1
                have hA2 := hA.app hown1 hg1 hb1 hat1
                refine hK.out _ _ hA2.below (fun _ => ?_)
                clear hK K hown1 hg1 hb1 hat1 hA
                (try simp only [Act.put, List.setIfInBounds_toArray, List.set_cons_zero, List.set_cons_succ])
                have hA := hA2
                clear hA2
                refine wpAnyH_take (i := 26) (oi := ?oi_15) (v := ?v_15) ?ho_15 ?h1_15 ?h2_15 ?h3_15 ?hq_15 (Or.inl ⟨?hw_15, ?hy_15⟩) ?hs_15 ?rest_15; (case h2_15 => kernel_rfl); (case h3_15 => kernel_rfl); (case ho_15 => (simp only [List.getElem?_toArray, List.getElem?_cons_zero, List.getElem?_cons_succ]; rfl)); (case h1_15 => kernel_rfl); (case hq_15 => exact fun _ _ _ h => h); (case hw_15 => rfl); (case hy_15 => (intro w' hSw; refine exec_built (t := 37) (cs := #[.slice A2 (m0 + 1) c2, .int .i64 TT, .int .i64 xo]) (parts := #[(0, .tmp 83), (1, .tmp 91), (2, .tmp 96)]) ?_ ?_ w'; exact rfl; simp only [List.map_toArray, List.map_cons, List.map_nil]; exact built_wy _ _ _ _ _)); (case hs_15 => assumption); (try simp only [Act.put, List.setIfInBounds_toArray, List.set_cons_zero, List.set_cons_succ])

                refine wpAnyH_ready (rs := [28]) (by kernel_rfl) (by simp) (AllReadyH.cons (o := ?oo28_65) ?hoo28_65 (fun K hK => ?steponly65) AllReadyH.nil); (case hoo28_65 => (simp only [List.getElem?_toArray, List.getElem?_cons_zero, List.getElem?_cons_succ]; rfl))
                refine step_row rfl 37 (.tmp 14) (.tmp 97) rfl gs #[.slice A2 (m0 + 1) c2, .int .i64 TT, .int .i64 xo] rfl rfl _ zw (hA.blk gs _ (List.Mem.head _)).1 (wy_inf _ _ _ _ _) (wy_zs hz3 _ _ _ _ _) (wy_on _ _ _ _ _) ?_
                obtain ⟨hb1, hown1, hblk1, hne1, hge1⟩ := hA.row (List.Mem.head _) #[.slice A2 (m0 + 1) c2, .int .i64 TT, .int .i64 xo]
                refine hK.out _ _ hb1 (fun _ => ?_)
                clear hK K hA
                (try simp only [Act.put, List.setIfInBounds_toArray, List.set_cons_zero, List.set_cons_succ])
                refine wpAnyH_done (by kernel_rfl) ?_ _
                have HE := Lib.hid (And.intro hb1 (And.intro hown1 (And.intro hblk1 (And.intro hne1 hge1))))
                clear hb1 hown1 hblk1 hne1 hge1 r1 r2 r3 r4 r5 hS0
                go_wp2_with fail
                go_meet
                obtain ⟨hb1, hown1, hblk1, hne1, hge1⟩ := HE.out
                exact ap_out rfl hb1 hown1 hblk1 hne1 hge1 HEN.out.1 HEN.out.2
            case stepQA27 =>
              refine step_new rfl hwz rfl ?_
              refine Ap.goP hA ?_
              intro V1 gs hA2
              refine hK.out _ _ hA2.below (fun _ => ?_)
              clear hK K hA
              (try simp only [Act.put, List.setIfInBounds_toArray, List.set_cons_zero, List.set_cons_succ])
              have hA := hA2
              clear hA2
              refine wpAnyH_ready (rs := [0, 11]) (by kernel_rfl) (by simp) (AllReadyH.cons (o := ?oo0_66) ?hoo0_66 (fun K hK => ?stepQK0) (AllReadyH.cons (o := ?oo11_66) ?hoo11_66 (fun K hK => ?stepQK11) AllReadyH.nil)); (case hoo0_66 => (simp only [List.getElem?_toArray, List.getElem?_cons_zero, List.getElem?_cons_succ]; rfl)); (case hoo11_66 => (simp only [List.getElem?_toArray, List.getElem?_cons_zero, List.getElem?_cons_succ]; rfl))
              case stepQK0 =>
                refine step_slice rfl 25 0 #[] rfl (by simp only [List.map_toArray, List.map_nil]; exact ints0 V1) ?_
                refine Ap.go0 hA ?_
                intro V2 ga hA2
                refine hK.out _ _ hA2.below (fun _ => ?_)
                clear hK K hA
                (try simp only [Act.put, List.setIfInBounds_toArray, List.set_cons_zero, List.set_cons_succ])
                have hA := hA2
                clear hA2
                refine wpAnyH_ready (rs := [6, 11]) (by kernel_rfl) (by simp) (AllReadyH.cons (o := ?oo6_67) ?hoo6_67 (fun K hK => ?stepQL6) (AllReadyH.cons (o := ?oo11_67) ?hoo11_67 (fun K hK => ?stepQL11) AllReadyH.nil)); (case hoo6_67 => (simp only [List.getElem?_toArray, List.getElem?_cons_zero, List.getElem?_cons_succ]; rfl)); (case hoo11_67 => (simp only [List.getElem?_toArray, List.getElem?_cons_zero, List.getElem?_cons_succ]; rfl))
                case stepQL6 =>
                  refine step_app _ rfl (.tmp 71) (.tmp 76) 25 rfl (base := Wc.heap.size) Try.underlying25 elemI rfl hA.own rfl (hsrc.below hA.below) (one_ivs _) (by simp only [maxLen]; omega) (by omega) hA.ge ?_
                  intro A1 c1 w3 hown1 hg1 hb1 hat1
                  simp only [Nat.zero_add, List.nil_append] at hown1 hat1 ⊢
                  have hA2 := hA.app hown1 hg1 hb1 hat1
                  refine hK.out _ _ hA2.below (fun _ => ?_)
                  clear hK K hown1 hg1 hb1 hat1 hA
                  (try simp only [Act.put, List.setIfInBounds_toArray, List.set_cons_zero, List.set_cons_succ])
                  have hA := hA2
                  clear hA2
                  refine wpAnyH_ready (rs := [11]) (by kernel_rfl) (by simp) (AllReadyH.cons (o := ?oo11_68) ?hoo11_68 (fun K hK => ?steponly68) AllReadyH.nil); (case hoo11_68 => (simp only [List.getElem?_toArray, List.getElem?_cons_zero, List.getElem?_cons_succ]; rfl))
                  refine step_slice rfl 25 1 #[(0, .tmp 81)] rfl (by simp only [List.map_toArray, List.map_cons, List.map_nil]; exact ints1 pb w3) ?_
                  refine Ap.go1 hA ?_
                  intro V4 gb hA2
                  refine hK.out _ _ hA2.below (fun _ => ?_)
                  clear hK K hA
                  (try simp only [Act.put, List.setIfInBounds_toArray, List.set_cons_zero, List.set_cons_succ])
                  have hA := hA2
                  clear hA2
                  refine wpAnyH_ready (rs := [12]) (by kernel_rfl) (by simp) (AllReadyH.cons (o := ?oo12_69) ?hoo12_69 (fun K hK => ?steponly69) AllReadyH.nil); (case hoo12_69 => (simp only [List.getElem?_toArray, List.getElem?_cons_zero, List.getElem?_cons_succ]; rfl))
                  refine step_app _ rfl (.tmp 77) (.tmp 82) 25 rfl (base := Wc.heap.size) Try.underlying25 elemI rfl hA.own rfl (Sl.new (sz := 1) (n := 1) (hA.blk gb _ (List.Mem.head _)).1 rfl) (one_ivs [pb]) (by simp only [maxLen]; omega) (by omega) hA.ge ?_
                  intro A2 c2 w5 hown1 hg1 hb1 hat1
                  have hA2 := hA.app hown1 hg1 hb1 hat1
                  refine hK.out _ _ hA2.below (fun _ => ?_)
                  clear hK K hown1 hg1 hb1 hat1 hA
                  (try simp only [Act.put, List.setIfInBounds_toArray, List.set_cons_zero, List.set_cons_succ])
                  have hA := hA2
                  clear hA2
                  refine wpAnyH_take (i := 26) (oi := ?oi_16) (v := ?v_16) ?ho_16 ?h1_16 ?h2_16 ?h3_16 ?hq_16 (Or.inl ⟨?hw_16, ?hy_16⟩) ?hs_16 ?rest_16; (case h2_16 => kernel_rfl); (case h3_16 => kernel_rfl); (case ho_16 => (simp only [List.getElem?_toArray, List.getElem?_cons_zero, List.getElem?_cons_succ]; rfl)); (case h1_16 => kernel_rfl); (case hq_16 => exact fun _ _ _ h => h); (case hw_16 => rfl); (case hy_16 => (intro w' hSw; refine exec_built (t := 37) (cs := #[.slice A2 (m0 + 1) c2, .int .i64 TT, .int .i64 xo]) (parts := #[(0, .tmp 83), (1, .tmp 91), (2, .tmp 96)]) ?_ ?_ w'; exact rfl; simp only [List.map_toArray, List.map_cons, List.map_nil]; exact built_wy _ _ _ _ _)); (case hs_16 => assumption); (try simp only [Act.put, List.setIfInBounds_toArray, List.set_cons_zero, List.set_cons_succ])

                  refine wpAnyH_ready (rs := [28]) (by kernel_rfl) (by simp) (AllReadyH.cons (o := ?oo28_70) ?hoo28_70 (fun K hK => ?steponly70) AllReadyH.nil); (case hoo28_70 => (simp only [List.getElem?_toArray, List.getElem?_cons_zero, List.getElem?_cons_succ]; rfl))
                  refine step_row rfl 37 (.tmp 14) (.tmp 97) rfl gs #[.slice A2 (m0 + 1) c2, .int .i64 TT, .int .i64 xo] rfl rfl _ zw (hA.blk gs _ (List.Mem.tail _ (List.Mem.head _))).1 (wy_inf _ _ _ _ _) (wy_zs hz3 _ _ _ _ _) (wy_on _ _ _ _ _) ?_
                  obtain ⟨hb1, hown1, hblk1, hne1, hge1⟩ := hA.row (List.Mem.tail _ (List.Mem.head _)) #[.slice A2 (m0 + 1) c2, .int .i64 TT, .int .i64 xo]
                  refine hK.out _ _ hb1 (fun _ => ?_)
                  clear hK K hA
                  (try simp only [Act.put, List.setIfInBounds_toArray, List.set_cons_zero, List.set_cons_succ])
                  refine wpAnyH_done (by kernel_rfl) ?_ _
                  have HE := Lib.hid (And.intro hb1 (And.intro hown1 (And.intro hblk1 (And.intro hne1 hge1))))
                  clear hb1 hown1 hblk1 hne1 hge1 r1 r2 r3 r4 r5 hS0
                  go_wp2_with fail
                  go_meet
                  obtain ⟨hb1, hown1, hblk1, hne1, hge1⟩ := HE.out
                  exact ap_out rfl hb1 hown1 hblk1 hne1 hge1 HEN.out.1 HEN.out.2
                case stepQL11 =>
                  refine step_slice rfl 25 1 #[(0, .tmp 81)] rfl (by simp only [List.map_toArray, List.map_cons, List.map_nil]; exact ints1 pb V2) ?_
                  refine Ap.go1 hA ?_
                  intro V3 gb hA2
                  refine hK.out _ _ hA2.below (fun _ => ?_)
                  clear hK K hA
                  (try simp only [Act.put, List.setIfInBounds_toArray, List.set_cons_zero, List.set_cons_succ])
                  have hA := hA2
                  clear hA2
                  refine wpAnyH_ready (rs := [6]) (by kernel_rfl) (by simp) (AllReadyH.cons (o := ?oo6_71) ?hoo6_71 (fun K hK => ?steponly71) AllReadyH.nil); (case hoo6_71 => (simp only [List.getElem?_toArray, List.getElem?_cons_zero, List.getElem?_cons_succ]; rfl))
                  refine step_app _ rfl (.tmp 71) (.tmp 76) 25 rfl (base := Wc.heap.size) Try.underlying25 elemI rfl hA.own rfl (hsrc.below hA.below) (one_ivs _) (by simp only [maxLen]; omega) (by omega) hA.ge ?_
                  intro A1 c1 w4 hown1 hg1 hb1 hat1
                  simp only [Nat.zero_add, List.nil_append] at hown1 hat1 ⊢
                  have hA2 := hA.app hown1 hg1 hb1 hat1
                  refine hK.out _ _ hA2.below (fun _ => ?_)
                  clear hK K hown1 hg1 hb1 hat1 hA
                  (try simp only [Act.put, List.setIfInBounds_toArray, List.set_cons_zero, List.set_cons_succ])
                  have hA := hA2
                  clear hA2
                  refine wpAnyH_ready (rs := [12]) (by kernel_rfl) (by simp) (AllReadyH.cons (o := ?oo12_72) ?hoo12_72 (fun K hK => ?steponly72) AllReadyH.nil); (case hoo12_72 => (simp only [List.getElem?_toArray, List.getElem?_cons_zero, List.getElem?_cons_succ]; rfl))
                  refine step_app _ rfl (.tmp 77) (.tmp 82) 25 rfl (base := Wc.heap.size) Try.underlying25 elemI rfl hA.own rfl (Sl.new (sz := 1) (n := 1) (hA.blk gb _ (List.Mem.head _)).1 rfl) (one_ivs [pb]) (by simp only [maxLen]; omega) (by omega) hA.ge ?_
                  intro A2 c2 w5 hown1 hg1 hb1 hat1
                  have hA2 := hA.app hown1 hg1 hb1 hat1
                  refine hK.out _ _ hA2.below (fun _ => ?_)
                  clear hK K hown1 hg1 hb1 hat1 hA
                  (try simp only [Act.put, List.setIfInBounds_toArray, List.set_cons_zero, List.set_cons_succ])
                  have hA := hA2
                  clear hA2
                  refine wpAnyH_take (i := 26) (oi := ?oi_17) (v := ?v_17) ?ho_17 ?h1_17 ?h2_17 ?h3_17 ?hq_17 (Or.inl ⟨?hw_17, ?hy_17⟩) ?hs_17 ?rest_17; (case h2_17 => kernel_rfl); (case h3_17 => kernel_rfl); (case ho_17 => (simp only [List.getElem?_toArray, List.getElem?_cons_zero, List.getElem?_cons_succ]; rfl)); (case h1_17 => kernel_rfl); (case hq_17 => exact fun _ _ _ h => h); (case hw_17 => rfl); (case hy_17 => (intro w' hSw; refine exec_built (t := 37) (cs := #[.slice A2 (m0 + 1) c2, .int .i64 TT, .int .i64 xo]) (parts := #[(0, .tmp 83), (1, .tmp 91), (2, .tmp 96)]) ?_ ?_ w'; exact rfl; simp only [List.map_toArray, List.map_cons, List.map_nil]; exact built_wy _ _ _ _ _)); (case hs_17 => assumption); (try simp only [Act.put, List.setIfInBounds_toArray, List.set_cons_zero, List.set_cons_succ])

                  refine wpAnyH_ready (rs := [28]) (by kernel_rfl) (by simp) (AllReadyH.cons (o := ?oo28_73) ?hoo28_73 (fun K hK => ?steponly73) AllReadyH.nil); (case hoo28_73 => (simp only [List.getElem?_toArray, List.getElem?_cons_zero, List.getElem?_cons_succ]; rfl))
                  refine step_row rfl 37 (.tmp 14) (.tmp 97) rfl gs #[.slice A2 (m0 + 1) c2, .int .i64 TT, .int .i64 xo] rfl rfl _ zw (hA.blk gs _ (List.Mem.tail _ (List.Mem.head _))).1 (wy_inf _ _ _ _ _) (wy_zs hz3 _ _ _ _ _) (wy_on _ _ _ _ _) ?_
                  obtain ⟨hb1, hown1, hblk1, hne1, hge1⟩ := hA.row (List.Mem.tail _ (List.Mem.head _)) #[.slice A2 (m0 + 1) c2, .int .i64 TT, .int .i64 xo]
                  refine hK.out _ _ hb1 (fun _ => ?_)
                  clear hK K hA
                  (try simp only [Act.put, List.setIfInBounds_toArray, List.set_cons_zero, List.set_cons_succ])
                  refine wpAnyH_done (by kernel_rfl) ?_ _
                  have HE := Lib.hid (And.intro hb1 (And.intro hown1 (And.intro hblk1 (And.intro hne1 hge1))))
                  clear hb1 hown1 hblk1 hne1 hge1 r1 r2 r3 r4 r5 hS0
                  go_wp2_with fail
                  go_meet
                  obtain ⟨hb1, hown1, hblk1, hne1, hge1⟩ := HE.out
                  exact ap_out rfl hb1 hown1 hblk1 hne1 hge1 HEN.out.1 HEN.out.2
              case stepQK11 =>
                refine step_slice rfl 25 1 #[(0, .tmp 81)] rfl (by simp only [List.map_toArray, List.map_cons, List.map_nil]; exact ints1 pb V1) ?_
                refine Ap.go1 hA ?_
                intro V2 gb hA2
                refine hK.out _ _ hA2.below (fun _ => ?_)
                clear hK K hA
                (try simp only [Act.put, List.setIfInBounds_toArray, List.set_cons_zero, List.set_cons_succ])
                have hA := hA2
                clear hA2
                refine wpAnyH_ready (rs := [0]) (by kernel_rfl) (by simp) (AllReadyH.cons (o := ?oo0_74) ?hoo0_74 (fun K hK => ?steponly74) AllReadyH.nil); (case hoo0_74 => (simp only [List.getElem?_toArray, List.getElem?_cons_zero, List.getElem?_cons_succ]; rfl))
                refine step_slice rfl 25 0 #[] rfl (by simp only [List.map_toArray, List.map_nil]; exact ints0 V2) ?_
                refine Ap.go0 hA ?_
                intro V3 ga hA2
                refine hK.out _ _ hA2.below (fun _ => ?_)
                clear hK K hA
                (try simp only [Act.put, List.setIfInBounds_toArray, List.set_cons_zero, List.set_cons_succ])
                have hA := hA2
                clear hA2
                refine wpAnyH_ready (rs := [6]) (by kernel_rfl) (by simp) (AllReadyH.cons (o := ?oo6_75) ?hoo6_75 (fun K hK => ?steponly75) AllReadyH.nil); (case hoo6_75 => (simp only [List.getElem?_toArray, List.getElem?_cons_zero, List.getElem?_cons_succ]; rfl))
                refine step_app _ rfl (.tmp 71) (.tmp 76) 25 rfl (base := Wc.heap.size) Try.underlying25 elemI rfl hA.own rfl (hsrc.below hA.below) (one_ivs _) (by simp only [maxLen]; omega) (by omega) hA.ge ?_
                intro A1 c1 w4 hown1 hg1 hb1 hat1
                simp only [Nat.zero_add, List.nil_append] at hown1 hat1 ⊢
                have hA2 := hA.app hown1 hg1 hb1 hat1
                refine hK.out _ _ hA2.below (fun _ => ?_)
                clear hK K hown1 hg1 hb1 hat1 hA
                (try simp only [Act.put, List.setIfInBounds_toArray, List.set_cons_zero, List.set_cons_succ])
                have hA := hA2
                clear hA2
                refine wpAnyH_ready (rs := [12]) (by kernel_rfl) (by simp) (AllReadyH.cons (o := ?oo12_76) ?hoo12_76 (fun K hK => ?steponly76) AllReadyH.nil); (case hoo12_76 => (simp only [List.getElem?_toArray, List.getElem?_cons_zero, List.getElem?_cons_succ]; rfl))
                refine step_app _ rfl (.tmp 77) (.tmp 82) 25 rfl (base := Wc.heap.size) Try.underlying25 elemI rfl hA.own rfl (Sl.new (sz := 1) (n := 1) (hA.blk gb _ (List.Mem.head _)).1 rfl) (one_ivs [pb]) (by simp only [maxLen]; omega) (by omega) hA.ge ?_
                intro A2 c2 w5 hown1 hg1 hb1 hat1
                have hA2 := hA.app hown1 hg1 hb1 hat1
                refine hK.out _ _ hA2.below (fun _ => ?_)
                clear hK K hown1 hg1 hb1 hat1 hA
                (try simp only [Act.put, List.setIfInBounds_toArray, List.set_cons_zero, List.set_cons_succ])
                have hA := hA2
                clear hA2
                refine wpAnyH_take (i := 26) (oi := ?oi_18) (v := ?v_18) ?ho_18 ?h1_18 ?h2_18 ?h3_18 ?hq_18 (Or.inl ⟨?hw_18, ?hy_18⟩) ?hs_18 ?rest_18; (case h2_18 => kernel_rfl); (case h3_18 => kernel_rfl); (case ho_18 => (simp only [List.getElem?_toArray, List.getElem?_cons_zero, List.getElem?_cons_succ]; rfl)); (case h1_18 => kernel_rfl); (case hq_18 => exact fun _ _ _ h => h); (case hw_18 => rfl); (case hy_18 => (intro w' hSw; refine exec_built (t := 37) (cs := #[.slice A2 (m0 + 1) c2, .int .i64 TT, .int .i64 xo]) (parts := #[(0, .tmp 83), (1, .tmp 91), (2, .tmp 96)]) ?_ ?_ w'; exact rfl; simp only [List.map_toArray, List.map_cons, List.map_nil]; exact built_wy _ _ _ _ _)); (case hs_18 => assumption); (try simp only [Act.put, List.setIfInBounds_toArray, List.set_cons_zero, List.set_cons_succ])

                refine wpAnyH_ready (rs := [28]) (by kernel_rfl) (by simp) (AllReadyH.cons (o := ?oo28_77) ?hoo28_77 (fun K hK => ?steponly77) AllReadyH.nil); (case hoo28_77 => (simp only [List.getElem?_toArray, List.getElem?_cons_zero, List.getElem?_cons_succ]; rfl))
                refine step_row rfl 37 (.tmp 14) (.tmp 97) rfl gs #[.slice A2 (m0 + 1) c2, .int .i64 TT, .int .i64 xo] rfl rfl _ zw (hA.blk gs _ (List.Mem.tail _ (List.Mem.head _))).1 (wy_inf _ _ _ _ _) (wy_zs hz3 _ _ _ _ _) (wy_on _ _ _ _ _) ?_
                obtain ⟨hb1, hown1, hblk1, hne1, hge1⟩ := hA.row (List.Mem.tail _ (List.Mem.head _)) #[.slice A2 (m0 + 1) c2, .int .i64 TT, .int .i64 xo]
                refine hK.out _ _ hb1 (fun _ => ?_)
                clear hK K hA
                (try simp only [Act.put, List.setIfInBounds_toArray, List.set_cons_zero, List.set_cons_succ])
                refine wpAnyH_done (by kernel_rfl) ?_ _
                have HE := Lib.hid (And.intro hb1 (And.intro hown1 (And.intro hblk1 (And.intro hne1 hge1))))
                clear hb1 hown1 hblk1 hne1 hge1 r1 r2 r3 r4 r5 hS0
                go_wp2_with fail
                go_meet
                obtain ⟨hb1, hown1, hblk1, hne1, hge1⟩ := HE.out
                exact ap_out rfl hb1 hown1 hblk1 hne1 hge1 HEN.out.1 HEN.out.2
          case rest =>
          obtain ⟨gw, A13, c13, rfl, y14, hiv13, hfar13, hge13, hbx⟩ := hcut
          rename World => Wd
          have hbxx := hbx
          have k14 : Wd.cell? ⟨gw, 2, none⟩ = some (.int .i64 xo) := blk_cell y14 rfl
          have f14 := blk_frozen y14 2
          have l14 := (Array.getElem?_eq_some_iff.1 y14).1
          have qov := (hbx.cell (p := ⟨gc, 1, none⟩) lgc).trans q1
          have lgcd : gc < Wd.heap.size := by have := hbx.size; omega
          have g8 : IntKind.i64.wrap (xo + 1) = xo + 1 := wrap_small _ (by omega) (by omega)
          have hfar14 : ∀ b o i, A13 = some ⟨b, o, i⟩ → b ≠ gw := fun b o i e => (hfar13 b o i e).2
          have hxov : XO = xo + (if co then 1 else 0) := by rw [HW.out.2.2.2.2.2.1.2]; exact HW.out.2.2.2.2.2.1.1.symm
          have HD := Lib.hid (And.intro y14 (And.intro hiv13 (And.intro hfar14 (And.intro hbx hxov))))
          have hfar13F : ∀ b o i, A13 = some ⟨b, o, i⟩ → Wc.heap.size ≤ b := fun b o i e => (hfar13 b o i e).1
          have HFAR := Lib.hid hfar13F
          clear y14 hiv13 hfar13 hbx hbxx hfar14 hxov hfar13F d0 d1 d2 q0 q1 cBC hsrc
          (try simp only [Act.put, List.setIfInBounds_toArray, List.set_cons_zero, List.set_cons_succ])
          go_upto_if 99 with (fail)
          (try simp only [Act.put, List.setIfInBounds_toArray, List.set_cons_zero, List.set_cons_succ])
          go_cut [14] from 100 to 103 (fun s14 wx => s14 = .pointer (some ⟨gw, 0, none⟩) ∧ wx.heap[gw]? = some (.cells #[.slice A13 (m0 + 1) c13, .int .i64 TT, .int .i64 XO] 37) ∧ IvAt wx wx.heap.size A13 (m0 + 1) c13 (x.ends ++ [pb]) ∧ Below Wc.heap.size Wc wx)
          case first =>
            cases co with
            | false =>
              go_wp2_with fail
              go_meet
              obtain ⟨y14, hiv13, hfar14, hbx, hxov⟩ := HD.out
              rw [if_neg (by simp), Int.add_zero] at hxov
              rw [hxov]
              exact ⟨rfl, y14, hiv13, hbx⟩
            | true =>
              go_wp2_with fail
              obtain ⟨y14, hiv13, hfar14, hbx, hxov⟩ := HD.out
              simp only [if_true] at hxov
              obtain ⟨U, hU⟩ : ∃ q, Wd.setCell ⟨gw, 2, none⟩ (.int .i64 (xo + 1)) = q := ⟨_, rfl⟩
              have u14 : U.heap[gw]? = some (.cells #[.slice A13 (m0 + 1) c13, .int .i64 TT, .int .i64 XO] 37) := by rw [← hU, hxov]; exact blk_set y14 2 _
              have hbu : But Wd.heap.size (· = gw) Wd U := by rw [← hU]; exact But.setp (p := gw) (But.refl _ _ _) 2 _
              rw [hU]
              go_meet
              exact ⟨rfl, u14, IvAt.but6 (g := gw) hiv13 hfar14 hbu, hbx.trans (hbu.below hbx.size (fun q e => by omega))⟩
          case rest =>
          obtain ⟨rfl, y14, hiv13, hbx⟩ := hcut
          clear k14 f14 qov HD
          rename World => We
          have hgwC : gw < We.heap.size := (Array.getElem?_eq_some_iff.1 y14).1
          obtain ⟨hrep, hbC, hiv9, hcs, hcur, -, ⟨e90, e91, hcel2k⟩, -⟩ := HW.out
          have hrepE := hrep.nxt hbx
          have hbE : Below F Z We := hbC.trans (hbx.mono (by omega))
          have hiv9E := hiv9.but2 hFG (but_of2 hbx)
          have w0 : We.cell? ⟨gw, 0, none⟩ = some (.slice A13 (m0 + 1) c13) := blk_cell y14 rfl
          have w1 : We.cell? ⟨gw, 1, none⟩ = some (.int .i64 TT) := blk_cell y14 rfl
          have f0 : We.cell? ⟨F, k * 3, none⟩ = some (.slice A9 m9 c9) := blk_cell hrepE.blk e90
          have f1 : We.cell? ⟨F, k * 3 + 1, none⟩ = some (.int .i64 (cur.getD wy0).total) := blk_cell hrepE.blk e91
          obtain ⟨tk, htk⟩ : ∃ q, cur.isSome = q := ⟨_, rfl⟩
          rw [htk] at hcel2k
          have fT : We.cell? ⟨G, k, none⟩ = some (.bool tk) := blk_cell hrepE.blk2 hcel2k
          have lFE := (Array.getElem?_eq_some_iff.1 hrepE.blk).1
          have lGE := (Array.getElem?_eq_some_iff.1 hrepE.blk2).1
          have hless := fun W (hb : Below We.heap.size We W) => rless_any W (hiv13.nxt hb) (hiv9E.iv.nxt hb) (by omega) hm9
          obtain ⟨E2, hE2⟩ : ∃ q, x.ends ++ [pb] = q := ⟨_, rfl⟩
          rw [hE2] at hless hiv13 hcs
          rw [offr_new] at hcs
          have HC2 := Lib.hid (And.intro hrepE (And.intro hbE (And.intro hiv13 (And.intro hcs (And.intro y14 hcur)))))
          have HTK := Lib.hid htk
          have hkN' : (k : Int) < (N : Int) := hi1
          clear hrep hbC hiv9 hcs hcur e90 e91 hcel2k hrepE hbE hiv9E htk hiv13 y14 hbx HW HEN hE2
          (try simp only [Act.put, List.setIfInBounds_toArray, List.set_cons_zero, List.set_cons_succ])
          go_upto_region 16 with (fail)
          (try simp only [Act.put, List.setIfInBounds_toArray, List.set_cons_zero, List.set_cons_succ])
          go_cut [138] from 104 to 138 (fun s138 wx => s138 = .bool (newB cur ⟨E2, TT, XO⟩) ∧ Below We.heap.size We wx)
          case first =>
            clear HC2
            let S : World → Prop := fun w' => Below We.heap.size We w'
            have hS0 : S We.drew := (Below.refl _ _).drew
            have r1 : ∀ w', S w' → w'.cell? ⟨gw, 1, none⟩ = some (.int .i64 TT) := fun w' h => (Below.cell h (p := ⟨gw, 1, none⟩) hgwC).trans w1
            have r2 : ∀ w', S w' → w'.cell? ⟨F, k * 3 + 1, none⟩ = some (.int .i64 (cur.getD wy0).total) := fun w' h => (Below.cell h (p := ⟨F, k * 3 + 1, none⟩) lFE).trans f1
            have r3 : ∀ w', S w' → w'.cell? ⟨gw, 0, none⟩ = some (.slice A13 (m0 + 1) c13) := fun w' h => (Below.cell h (p := ⟨gw, 0, none⟩) hgwC).trans w0
            have r4 : ∀ w', S w' → w'.cell? ⟨F, k * 3, none⟩ = some (.slice A9 m9 c9) := fun w' h => (Below.cell h (p := ⟨F, k * 3, none⟩) lFE).trans f0
            have r5 : ∀ w', S w' → w'.cell? ⟨G, k, none⟩ = some (.bool tk) := fun w' h => (Below.cell h (p := ⟨G, k, none⟩) lGE).trans fT
            clear w0 w1 f0 f1 fT
            refine wp_region_held (S := S) (by kernel_rfl) ?_
            change wpAnyH _ _ _ _ S _ _ _ We.drew
            cases hcc : cur with
            | none =>
              have hth : tk = false := by rw [← HTK.out, hcc]; rfl
              subst hth
              change At 0 _
              iterate 35 (first | (apply tkA; (case hi => (simp only [List.getElem?_toArray, List.getElem?_cons_zero, List.getElem?_cons_succ]; rfl)); (case hw => rfl); (case hy => (intro w' hSw; have q5 := r5 w' hSw; (try simp only [S] at hSw); go_simp; (try with_reducible rfl))); (case hs => kernel_rfl); (case hf => kernel_rfl); (case hr => kernel_rfl); (case hQ => exact fun _ _ _ h => h); (case hS => assumption); (try simp only [Act.put, List.setIfInBounds_toArray, List.set_cons_zero, List.set_cons_succ, Nat.reduceAdd])) | (apply skA; (case hi => (simp only [List.getElem?_toArray, List.getElem?_cons_zero, List.getElem?_cons_succ]; rfl)); (case hw => rfl); (case hs => kernel_rfl); (case hf => kernel_rfl); (case hr => kernel_rfl); (case hQ => exact fun _ _ _ h => h); (case hS => assumption); (try simp only [Act.put, List.setIfInBounds_toArray, List.set_cons_zero, List.set_cons_succ, Nat.reduceAdd])))
              change wpAnyH _ _ _ _ _ _ _ _ _
              refine wpAnyH_done (by kernel_rfl) ?_ _
              have HE := Lib.hid (show Below We.heap.size We _ from hS0)
              clear hS0 r1 r2 r3 r4 r5
              go_wp2_with fail
              go_meet
              exact ⟨by rw [hcc]; rfl, HE.out⟩
            | some y =>
              have hth : tk = true := by rw [← HTK.out, hcc]; rfl
              subst hth
              rw [hcc] at r2 hless
              obtain ⟨ye, yt, yo⟩ := y
              simp only [Option.getD_some] at r2 hless
              rcases Int.lt_trichotomy TT yt with h1 | h1 | h1
              · skip
                change At 0 _
                iterate 35 (first | (apply tkA; (case hi => (simp only [List.getElem?_toArray, List.getElem?_cons_zero, List.getElem?_cons_succ]; rfl)); (case hw => rfl); (case hy => (intro w' hSw; have q1 := r1 w' hSw; have q2 := r2 w' hSw; have q5 := r5 w' hSw; (try simp only [S] at hSw); go_simp; (try with_reducible rfl))); (case hs => kernel_rfl); (case hf => kernel_rfl); (case hr => kernel_rfl); (case hQ => exact fun _ _ _ h => h); (case hS => assumption); (try simp only [Act.put, List.setIfInBounds_toArray, List.set_cons_zero, List.set_cons_succ, Nat.reduceAdd])) | (apply skA; (case hi => (simp only [List.getElem?_toArray, List.getElem?_cons_zero, List.getElem?_cons_succ]; rfl)); (case hw => rfl); (case hs => kernel_rfl); (case hf => kernel_rfl); (case hr => kernel_rfl); (case hQ => exact fun _ _ _ h => h); (case hS => assumption); (try simp only [Act.put, List.setIfInBounds_toArray, List.set_cons_zero, List.set_cons_succ, Nat.reduceAdd])))
                change wpAnyH _ _ _ _ _ _ _ _ _
                refine wpAnyH_done (by kernel_rfl) ?_ _
                have HE := Lib.hid (show Below We.heap.size We _ from hS0)
                clear hS0 r1 r2 r3 r4 r5
                go_wp2_with fail
                go_meet
                exact ⟨by rw [hcc]; unfold newB bett; simp only; rw [if_neg (by omega), decide_eq_true h1], HE.out⟩
              · subst h1
                have h2 : ¬ TT < TT := by omega
                change At 0 _
                iterate 32 (first | (apply tkA; (case hi => (simp only [List.getElem?_toArray, List.getElem?_cons_zero, List.getElem?_cons_succ]; rfl)); (case hw => rfl); (case hy => (intro w' hSw; have q1 := r1 w' hSw; have q2 := r2 w' hSw; have q3 := r3 w' hSw; have q4 := r4 w' hSw; have q5 := r5 w' hSw; (try simp only [S] at hSw); go_simp; (try with_reducible rfl))); (case hs => kernel_rfl); (case hf => kernel_rfl); (case hr => kernel_rfl); (case hQ => exact fun _ _ _ h => h); (case hS => assumption); (try simp only [Act.put, List.setIfInBounds_toArray, List.set_cons_zero, List.set_cons_succ, Nat.reduceAdd])) | (apply skA; (case hi => (simp only [List.getElem?_toArray, List.getElem?_cons_zero, List.getElem?_cons_succ]; rfl)); (case hw => rfl); (case hs => kernel_rfl); (case hf => kernel_rfl); (case hr => kernel_rfl); (case hQ => exact fun _ _ _ h => h); (case hS => assumption); (try simp only [Act.put, List.setIfInBounds_toArray, List.set_cons_zero, List.set_cons_succ, Nat.reduceAdd])))
                change wpAnyH _ _ _ _ _ _ _ _ _
                refine wpAnyH_ready (rs := [32]) (by kernel_rfl) (by simp) (AllReadyH.cons (o := ?oo32_78) ?hoo32_78 (fun K hK => ?steponly78) AllReadyH.nil); (case hoo32_78 => (simp only [List.getElem?_toArray, List.getElem?_cons_zero, List.getElem?_cons_succ]; rfl))
                go_simp
                refine Calls.mono (hless We.drew hS0) ?_
                rintro e w5 ⟨rfl, hb5⟩
                have hS1 : S w5 := (show Below We.heap.size We We.drew from hS0).trans hb5
                refine hK.out _ _ hS1 (fun _ => ?_)
                clear hK K
                (try simp only [Act.put, List.setIfInBounds_toArray, List.set_cons_zero, List.set_cons_succ])
                change At 33 _
                iterate 2 (first | (apply tkA; (case hi => (simp only [List.getElem?_toArray, List.getElem?_cons_zero, List.getElem?_cons_succ]; rfl)); (case hw => rfl); (case hy => (intro w' hSw; (try simp only [S] at hSw); go_simp; (try with_reducible rfl))); (case hs => kernel_rfl); (case hf => kernel_rfl); (case hr => kernel_rfl); (case hQ => exact fun _ _ _ h => h); (case hS => assumption); (try simp only [Act.put, List.setIfInBounds_toArray, List.set_cons_zero, List.set_cons_succ, Nat.reduceAdd])) | (apply skA; (case hi => (simp only [List.getElem?_toArray, List.getElem?_cons_zero, List.getElem?_cons_succ]; rfl)); (case hw => rfl); (case hs => kernel_rfl); (case hf => kernel_rfl); (case hr => kernel_rfl); (case hQ => exact fun _ _ _ h => h); (case hS => assumption); (try simp only [Act.put, List.setIfInBounds_toArray, List.set_cons_zero, List.set_cons_succ, Nat.reduceAdd])))
                change wpAnyH _ _ _ _ _ _ _ _ _
                refine wpAnyH_done (by kernel_rfl) ?_ _
                have HE := Lib.hid (show Below We.heap.size We _ from hS1)
                clear hS0 hS1 r1 r2 r3 r4 r5 hb5
                go_wp2_with fail
                go_meet
                exact ⟨by rw [hcc]; unfold newB bett; simp, HE.out⟩
              · have h2 : ¬ TT < yt := by omega
                have h3' : (TT == yt) = false := by simp; omega
                change At 0 _
                iterate 35 (first | (apply tkA; (case hi => (simp only [List.getElem?_toArray, List.getElem?_cons_zero, List.getElem?_cons_succ]; rfl)); (case hw => rfl); (case hy => (intro w' hSw; have q1 := r1 w' hSw; have q2 := r2 w' hSw; have q5 := r5 w' hSw; (try simp only [S] at hSw); go_simp; (try with_reducible rfl))); (case hs => kernel_rfl); (case hf => kernel_rfl); (case hr => kernel_rfl); (case hQ => exact fun _ _ _ h => h); (case hS => assumption); (try simp only [Act.put, List.setIfInBounds_toArray, List.set_cons_zero, List.set_cons_succ, Nat.reduceAdd])) | (apply skA; (case hi => (simp only [List.getElem?_toArray, List.getElem?_cons_zero, List.getElem?_cons_succ]; rfl)); (case hw => rfl); (case hs => kernel_rfl); (case hf => kernel_rfl); (case hr => kernel_rfl); (case hQ => exact fun _ _ _ h => h); (case hS => assumption); (try simp only [Act.put, List.setIfInBounds_toArray, List.set_cons_zero, List.set_cons_succ, Nat.reduceAdd])))
                change wpAnyH _ _ _ _ _ _ _ _ _
                refine wpAnyH_done (by kernel_rfl) ?_ _
                have HE := Lib.hid (show Below We.heap.size We _ from hS0)
                clear hS0 r1 r2 r3 r4 r5
                go_wp2_with fail
                go_meet
                exact ⟨by rw [hcc]; unfold newB bett; simp only; rw [if_neg (by omega), decide_eq_false (by omega)], HE.out⟩
          case rest =>
          obtain ⟨rfl, hbx2⟩ := hcut
          rename World => Wg
          clear w0 w1 f0 f1 fT hless
          obtain ⟨hrepE, hbE, hiv13, hcs, y14, hcur⟩ := HC2.out
          have hrepG := hrepE.nxt hbx2
          have hbG : Below F Z Wg := hbE.trans (hbx2.mono (by omega))
          cases hDD : newB cur ⟨E2, TT, XO⟩ with
          | false =>
            rw [hDD, if_neg Bool.false_ne_true] at hcs
            have HZ2 := Lib.hid (show Below F Z Wg ∧ ∃ cs ds, RRep Wg F G N (gst (rW l wd tl all) k (curW l wd tl all k (i + 1))) cs ds from ⟨hbG, by rw [hcs, ← hcur]; exact ⟨cs, ds, hrepG⟩⟩)
            have lGg := (Array.getElem?_eq_some_iff.1 hrepG.blk2).1
            clear hrepE hbE hiv13 hcs y14 hcur hrepG hbG hbx2 HC2
            go_wp2_with fail
            go_roundw
            case rel => exact ⟨i + 1, by omega, by go_num, lGg, HZ2⟩
            case measure => simp [intOf]; omega
          | true =>
            rw [hDD, if_pos rfl] at hcs
            have y14G := bBlk hbx2 hgwC y14
            have hivG : IvN Wg G A13 (m0 + 1) c13 E2 := ⟨hiv13.nxt hbx2, fun b o i e => by have := HFAR.out b o i e; omega⟩
            obtain ⟨cw, hcw⟩ : ∃ q : Array Value, #[.slice A13 (m0 + 1) c13, .int .i64 TT, .int .i64 XO] = q := ⟨_, rfl⟩
            rw [hcw] at y14G
            have hc3 : cw.size = 3 := by rw [← hcw]; rfl
            have hcl : cw.toList = [.slice A13 (m0 + 1) c13, .int .i64 TT, .int .i64 XO] := by rw [← hcw]
            have hc1' : cw.all (·.oneCell') = true := by rw [← hcw]; exact wy_on _ _ _ _ _
            have hw3' : (Try.prog.info? 37).map (·.size) = some cw.size := by rw [hc3]; exact wy_size
            have hth2 : Wg.there F (k * 3) cw.size := there_blk hrepG.blk (by rw [hc3, hrepG.size]; omega)
            obtain ⟨XX, hXX⟩ : ∃ q, Wg.setCells F (k * 3) cw.toList = q := ⟨_, rfl⟩
            have hFX : XX.heap[F]? = some (.cells (setMany cs (k * 3) cw.toList) 37) := by rw [← hXX]; exact blk_sets _ (k * 3) hrepG.blk
            have hGX : XX.heap[G]? = some (.cells ds 4) := by rw [← hXX, sets_far _ _ _ _ _ (by omega)]; exact hrepG.blk2
            have hBX : But Wg.heap.size (fun q => q = F ∨ q = G) Wg XX := by rw [← hXX]; exact but_sets _ F (k * 3) (But.refl _ _ _) (.inl rfl)
            have hkds : ds[k]? = some (.bool tk) := by rw [← HTK.out]; have := hrepG.cel2 k hlt; rwa [gst_at, hcur] at this
            have kG : XX.cell? ⟨G, k, none⟩ = some (.bool tk) := blk_cell hGX hkds
            have fG := blk_frozen hGX k
            have lGX := (Array.getElem?_eq_some_iff.1 hGX).1
            rw [hcl] at hFX
            obtain ⟨X2, hX2⟩ : ∃ q, XX.setCell ⟨G, k, none⟩ (.bool true) = q := ⟨_, rfl⟩
            have hF2 : X2.heap[F]? = some (.cells (setMany cs (k * 3) [.slice A13 (m0 + 1) c13, .int .i64 TT, .int .i64 XO]) 37) := by rw [← hX2]; exact blk_far hFX _ (by show F ≠ G; omega)
            have hG2 : X2.heap[G]? = some (.cells (ds.setIfInBounds k (.bool true)) 4) := by rw [← hX2]; exact blk_set hGX k _
            have hB2 : But Wg.heap.size (fun q => q = F ∨ q = G) Wg X2 := by rw [← hX2]; exact hBX.set (p := ⟨G, k, none⟩) (.inr rfl) _
            have hrep2 := hrepG.put (y := ⟨E2, TT, XO⟩) (g' := gst (rW l wd tl all) k (some ⟨E2, TT, XO⟩)) hlt hB2 hF2 hG2 (hivG.but2 hFG hB2) gst_at (fun j hj hne => gst_ne hne)
            have hb2 : Below F Z X2 := hbG.trans (hB2.below (by have := hbG.size; have := hrepG.blk; exact Nat.le_of_lt (Array.getElem?_eq_some_iff.1 hrepG.blk).1) (fun q e => by omega))
            have lG2 : G < X2.heap.size := (Array.getElem?_eq_some_iff.1 hG2).1
            have HZ2 := Lib.hid (show Below F Z X2 ∧ ∃ cs ds, RRep X2 F G N (gst (rW l wd tl all) k (curW l wd tl all k (i + 1))) cs ds from ⟨hb2, by rw [hcs]; exact ⟨_, _, hrep2⟩⟩)
            clear hrepE hbE hiv13 hcs y14 hcur hrepG hbG hbx2 HC2 hivG hcw hcl hFX hGX hBX hkds hF2 hG2 hB2 hrep2 hb2
            go_upto_region 17 with (fail)
            refine wp_region_lit ?_
            iterate 12 (first | go_guarded | go_step)
            refine wpList_load_row rfl 37 (.tmp 14) rfl _ rfl _ cw (0, 0) _ y14G Try.underlying37 rfl hw3' ?_
            (try simp only [Act.put, List.setIfInBounds_toArray, List.set_cons_zero, List.set_cons_succ])
            iterate 3 (first | go_guarded | go_step)
            refine wpList_store_mid rfl 37 (.tmp 144) (.tmp 143) rfl F (k * 3) cw rfl rfl hth2 hw3' hc1' ?_
            rw [hXX]
            (try simp only [Act.put, List.setIfInBounds_toArray, List.set_cons_zero, List.set_cons_succ])
            clear hth2 hw3' hc1' y14G hXX hc3
            go_wp2_with fail
            try rw [hX2]
            go_roundw
            case rel => exact ⟨i + 1, by omega, by go_num, lG2, HZ2⟩
            case measure => simp [intOf]; omega
end Go.Proofs.Ytnojikbecohhfaa
