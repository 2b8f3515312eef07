/- The walk over PagesTell. -/
import Derived.Test.YtdnpcplboohdpaaPgWakes
import Derived.Test.YtdnpcplboohdpaaPgFair
import Derived.Test.YtdnpcplboohdpaaPgOwn
import Derived.Test.YtdnpcplboohdpaaPgTot
import Derived.Test.YtdnpcplboohdpaaPgRBest
namespace Go.Proofs.Ytdnpcplboohdpaa
set_option linter.unusedSimpArgs false
set_option linter.unusedVariables false
open Go.RowKit Go.ChangeShapes Go.WideShapes Go.Sort

/-! ### pages look at no pieces -/
def nm (x : LN) : LN := { x with pv := .slice none 0 0 }
theorem nm_ej (x : LN) : (nm x).ej = x.ej := rfl
theorem nm_ejP (l : List LN) (a : Nat) : ejP (l.map nm) a = ejP l a := by
  unfold ejP
  rw [← List.map_drop, List.findIdx_map]
  rfl
theorem nm_pgOk (l : List LN) (a b h : Int) : pgOk (l.map nm) a b h = pgOk l a b h := by
  unfold pgOk
  rw [List.length_map, nm_ejP]
theorem nm_price (l : List LN) (a b h : Int) : price (l.map nm) a b h = price l a b h := by
  unfold price
  rw [List.getElem?_map, List.getElem?_map]
  cases l[b.toNat]? with
  | none => rfl
  | some q =>
    cases l[b.toNat - 1]? with
    | none => rfl
    | some e => rfl
theorem nm_cost (l : List LN) (a b h : Int) : costN (l.map nm) a b h = costN l a b h := by
  unfold costN
  rw [nm_pgOk, nm_price]
theorem nm_best (l : List LN) (h : Int) : bestP (l.map nm) h = bestP l h := by
  have h1 : ∀ f F k i, byWay (l.map nm) f h F k i = byWay l f h F k i := fun f F k i => by unfold byWay; rw [nm_pgOk, nm_price]
  have h2 : ∀ f F k lo n, bestTo (l.map nm) f h F k lo n = bestTo l f h F k lo n := fun f F k lo n => by
    induction n with
    | zero => rfl
    | succ n ih => rw [bestTo, bestTo, ih, h1]
  have h3 : ∀ f k, fnd (l.map nm) f h k = fnd l f h k := fun f k => by
    induction k with
    | zero => rfl
    | succ k ih => rw [fnd, fnd, ih, h2]
  have h4 : ∀ f t, secP (l.map nm) f t h = secP l f t h := fun f t => by unfold secP; rw [h3]
  have h5 : ∀ q f acc, allW (l.map nm) h q f acc = allW l h q f acc := fun q => by
    induction q with
    | zero => intro f acc; rfl
    | succ q ih => intro f acc; rw [allW, allW, List.length_map, nm_ejP, h4, ih]
  unfold bestP
  rw [List.length_map, h5]
theorem same_nm {l m : List (LN × List PC)} (h : RSame l m) : (lnsOf l).map nm = (lnsOf m).map nm := by
  refine List.ext_getElem? fun k => ?_
  unfold lnsOf
  rw [List.getElem?_map, List.getElem?_map, List.getElem?_map, List.getElem?_map]
  rcases Nat.lt_or_ge k l.length with h1 | h1
  · have h2 : k < m.length := by rw [← h.len]; exact h1
    have := h.at_ k _ _ (List.getElem?_eq_getElem h1) (List.getElem?_eq_getElem h2)
    rw [List.getElem?_eq_getElem h1, List.getElem?_eq_getElem h2]
    simp only [Option.map_some, Option.some.injEq]
    unfold nm
    rw [this.kind, this.first, this.last, this.over]
  · rw [List.getElem?_eq_none h1, List.getElem?_eq_none (by rw [← h.len]; exact h1)]
theorem same_best {l m : List (LN × List PC)} (h : RSame l m) (hh : Int) : bestP (lnsOf l) hh = bestP (lnsOf m) hh := by rw [← nm_best, same_nm h, nm_best]
theorem same_cost {l m : List (LN × List PC)} (h : RSame l m) (a b hh : Int) : costN (lnsOf l) a b hh = costN (lnsOf m) a b hh ∧ pgOk (lnsOf l) a b hh = pgOk (lnsOf m) a b hh := by
  rw [← nm_cost, ← nm_pgOk, same_nm h, nm_cost, nm_pgOk]; exact ⟨rfl, rfl⟩
theorem keepi_true {A A' : Option Addr} {n m c c' : Nat} {E : List Int} (w : World) (ha : IvAt w w.heap.size A n c E) (hb : IvAt w w.heap.size A' m c' E) (hn : n ≤ 1000000) : Calls Try.prog 19 #[.slice A n c, .slice A' m c'] w (Ret w (.bool true)) := by
  have := keepi_any w ha hb (Nat.le_refl _) (Nat.le_refl _) hn
  rw [decide_eq_true rfl] at this
  exact this
theorem best_len {l : List LN} {h : Int} : (bestP l h).ends.length ≤ 1000 := by
  by_cases hg : 3 ≤ h ∧ h ≤ 20 ∧ l.length ≤ 300
  · have := whole_lenT (best_whole (l := l) (h := h) hg.1 hg.2.1 hg.2.2) (Nat.zero_le _)
    omega
  · unfold bestP; rw [if_neg hg]; simp
set_option maxHeartbeats 16000000 in
set_option maxRecDepth 100000 in
theorem tell_core {A : Option Addr} {n c : Nat} {l : List (LN × List PC)} {n0 n1 n2 : Int} (w : World) (hl : RnAt w w.heap.size A n c l) (hc : c ≤ maxLen) :
    Calls Try.prog 3 #[.slice A n c, .agg #[.int .i64 n0, .int .i64 n1, .int .i64 n2]] w (Ret w (.bool true)) := by
  have hfair := fun W (h : Below w.heap.size w W) => fair_any W (hl.nxt h) hc
  unfold FairP at hfair
  have HL := Lib.hid (And.intro hl hl.len)
  clear hl hc
  go_enter Try.func3, Try.ntmps3
  go_upto_region 1 with (fail)
  obtain ⟨V, hV⟩ : ∃ q, w.alloc (.cells #[.int .i64 n0, .int .i64 n1, .int .i64 n2] 23) = q := ⟨_, rfl⟩
  have hB : Below w.heap.size w V := by rw [← hV]; exact (Below.refl _ _).alloc (Nat.le_refl _) _
  have v3 : V.heap[w.heap.size]? = some (.cells #[.int .i64 n0, .int .i64 n1, .int .i64 n2] 23) := by rw [← hV]; exact heap_alloc_new _ _
  rw [hV]
  clear hV
  have hfv := hfair V hB
  obtain ⟨g3, hg3⟩ : ∃ q, w.heap.size = q := ⟨_, rfl⟩
  rw [hg3] at v3
  rw [hg3]
  have HV := Lib.hid (And.intro hB v3)
  have hg3V : g3 < V.heap.size := (Array.getElem?_eq_some_iff.1 v3).1
  clear hfair hB v3 hg3
  go_wp2_with fail
  refine Calls.mono hfv ?_
  rintro e w1 ⟨b, rfl, hf, hb1⟩
  clear hfv
  cases b with
  | false =>
    have HB := Lib.hid (bNext HV.out.1 hb1)
    clear hb1 hf
    go_wp2_with fail
    refine Calls.mono (wakes20_any w1) ?_
    rintro e w2 ⟨rfl, hb2⟩
    go_wp2_with fail
    go_ret
    exact Ret.mk rfl (bNext HB.out hb2)
  | true =>
  obtain ⟨hn4, hp3⟩ := hf rfl
  have y3 := bBlk hb1 hg3V HV.out.2
  have k2 : w1.cell? ⟨g3, 2, none⟩ = some (.int .i64 n2) := blk_cell y3 rfl
  have hg31 : g3 < w1.heap.size := by have := hb1.size; omega
  have HB := Lib.hid (And.intro (bNext HV.out.1 hb1) y3)
  clear hb1 hf y3 HV
  by_cases hbig : 1000000 < n2
  · go_wp2_with fail
    refine Calls.mono (wakes20_any w1) ?_
    rintro e w2 ⟨rfl, hb2⟩
    go_wp2_with fail
    go_ret
    exact Ret.mk rfl (bNext HB.out.1 hb2)
  · have hown := own_lines w1 (HL.out.1.nxt HB.out.1) (by omega) (fun r hr => by have := hp3 r hr; omega)
    unfold OwnP at hown
    have HP := Lib.hid hp3
    clear hp3
    go_upto_region 3 with (fail)
    go_wp2_with fail
    refine Calls.mono hown ?_
    rintro e w2 ⟨A5, c5, l', rfl, hl', hsame, hb2⟩
    clear hown
    have y32 := bBlk hb2 hg31 HB.out.2
    have hlw := HL.out.1.nxt (bNext HB.out.1 hb2)
    have hcost := cost_any (a := n0) (b := n1) (h := n2) w2 hl'.ln hl'.one (by omega) (by omega)
    rw [(same_cost hsame n0 n1 n2).1, (same_cost hsame n0 n1 n2).2] at hcost
    obtain ⟨CN, hCN⟩ : ∃ q, costN (lnsOf l) n0 n1 n2 = q := ⟨_, rfl⟩
    obtain ⟨OK, hOK⟩ : ∃ q, pgOk (lnsOf l) n0 n1 n2 = q := ⟨_, rfl⟩
    rw [hCN, hOK] at hcost
    have k20 : w2.cell? ⟨g3, 0, none⟩ = some (.int .i64 n0) := blk_cell y32 rfl
    have k21 : w2.cell? ⟨g3, 1, none⟩ = some (.int .i64 n1) := blk_cell y32 rfl
    have k22 : w2.cell? ⟨g3, 2, none⟩ = some (.int .i64 n2) := blk_cell y32 rfl
    have hg32 := (Array.getElem?_eq_some_iff.1 y32).1
    have HW := Lib.hid (And.intro (bNext HB.out.1 hb2) (And.intro hlw (And.intro hl' (And.intro hsame (And.intro y32 (And.intro hCN hOK))))))
    clear hb2 y32 hlw hl' hsame hCN hOK HB k2 hg31
    go_upto_region 4 with (fail)
    go_wp2_with fail
    refine Calls.mono hcost ?_
    rintro e w3 ⟨rfl, hb3⟩
    clear hcost k20 k21 k22
    have y33 := bBlk hb3 hg32 HW.out.2.2.2.2.1
    have hrc := rcost_any (a := n0) (b := n1) (h := n2) w3 ((HW.out.2.1.nxt hb3).ln) HL.out.1.one (by omega) (by omega)
    rw [HW.out.2.2.2.2.2.1, HW.out.2.2.2.2.2.2] at hrc
    unfold prv at hrc
    obtain ⟨cp, hcp⟩ : ∃ q : Array Value, #[.int .i64 CN, .bool OK] = q := ⟨_, rfl⟩
    rw [hcp] at hrc
    have hpz := prZ
    obtain ⟨zp, hzp⟩ : ∃ q : Array Value, #[.int .i64 0, .bool false] = q := ⟨_, rfl⟩
    have hz2 : zp.size = 2 := by rw [← hzp]; rfl
    rw [hzp] at hpz
    have hpi : (Try.prog.info? 30).map (·.size) = some cp.size := by rw [← hcp]; kernel_rfl
    have hps : zp.size = cp.size := by rw [hz2, ← hcp]; rfl
    have hpo : cp.all (·.oneCell') = true := by rw [← hcp]; simp [Value.oneCell']
    have k30 : w3.cell? ⟨g3, 0, none⟩ = some (.int .i64 n0) := blk_cell y33 rfl
    have k31 : w3.cell? ⟨g3, 1, none⟩ = some (.int .i64 n1) := blk_cell y33 rfl
    have k32 : w3.cell? ⟨g3, 2, none⟩ = some (.int .i64 n2) := blk_cell y33 rfl
    have hg33 := (Array.getElem?_eq_some_iff.1 y33).1
    have HX := Lib.hid (And.intro hb3 (And.intro y33 hcp))
    clear hb3 y33 hcp hzp
    go_upto_region 5 with (fail)
    go_wp2_with fail
    refine Calls.mono hrc ?_
    rintro e w4 ⟨rfl, hb4⟩
    clear hrc k30 k31 k32
    obtain ⟨Z, hZ, z8, bZ⟩ := newRow w4 zp cp 30
    go_upto_region 6 with (first
      | (refine wpList_new rfl hpz rfl ?_)
      | (refine wpList_store_row rfl 30 (.tmp 8) (.tmp 38) rfl _ cp rfl rfl _ zp (heap_alloc_new _ _) hpi hps hpo ?_)
      | fail)
    try rw [hZ]
    have hb34 := hb4.trans (bZ.mono hb4.size)
    have hbZ := bNext HX.out.1 hb34
    have z3 := bBlk hb34 hg33 HX.out.2.1
    have q80 : Z.cell? ⟨w4.heap.size, 0, none⟩ = some (.int .i64 CN) := blk_cell z8 (by rw [← HX.out.2.2]; rfl)
    have q81 : Z.cell? ⟨w4.heap.size, 1, none⟩ = some (.bool OK) := blk_cell z8 (by rw [← HX.out.2.2]; rfl)
    have q32 : Z.cell? ⟨g3, 2, none⟩ = some (.int .i64 n2) := blk_cell z3 rfl
    have l8 := (Array.getElem?_eq_some_iff.1 z8).1
    have l3 := (Array.getElem?_eq_some_iff.1 z3).1
    obtain ⟨g8, hg8⟩ : ∃ q, w4.heap.size = q := ⟨_, rfl⟩
    rw [hg8] at q80 q81 l8
    rw [hg8]
    have hZl' := HW.out.2.2.1.nxt hbZ
    have hZl := HW.out.2.1.nxt hbZ
    have HZ := Lib.hid (And.intro (bNext HW.out.1 hbZ) (And.intro hZl' (And.intro hZl HW.out.2.2.2.1)))
    have hbest := fun W (h : Below Z.heap.size Z W) => best_any (h := n2) W (hZl'.nxt h).ln hZl'.one
    have hrbest := fun W (h : Below Z.heap.size Z W) => rbest_any (h := n2) W (hZl.nxt h).ln HL.out.1.one
    simp only [same_best HW.out.2.2.2.1] at hbest
    have hblen := best_len (l := lnsOf l) (h := n2)
    obtain ⟨BW, hBW⟩ : ∃ q, bestP (lnsOf l) n2 = q := ⟨_, rfl⟩
    rw [hBW] at hblen
    simp only [hBW] at hbest hrbest
    unfold SecP at hbest hrbest
    clear hBW hZl' hZl hZ hpi hps hpo z8 bZ hb4 hb34 hbZ z3 hg8 HX hg33
    let S : World → Prop := fun w' => Below Z.heap.size Z w'
    have hS0 : S Z.drew := (Below.refl _ _).drew
    have r1 : ∀ w', S w' → w'.cell? ⟨g8, 0, none⟩ = some (.int .i64 CN) := fun w' h => (Below.cell h (p := ⟨g8, 0, none⟩) l8).trans q80
    have r2 : ∀ w', S w' → w'.cell? ⟨g8, 1, none⟩ = some (.bool OK) := fun w' h => (Below.cell h (p := ⟨g8, 1, none⟩) l8).trans q81
    have r3 : ∀ w', S w' → w'.cell? ⟨g3, 2, none⟩ = some (.int .i64 n2) := fun w' h => (Below.cell h (p := ⟨g3, 2, none⟩) l3).trans q32
    clear q80 q81 q32
    refine wp_region_held (S := S) (by kernel_rfl) ?_
    change wpAnyH _ _ _ _ S _ _ _ Z.drew
    change At 0 _
    iterate 14 (first | (apply tkA; (case hi => (simp only [List.getElem?_toArray, List.getElem?_cons_zero, List.getElem?_cons_succ]; rfl)); (case hw => rfl); (case hy => (intro w' hSw; have q1 := r1 w' hSw; have q2 := r2 w' hSw; have q3 := r3 w' hSw; (try simp only [S] at hSw); go_simp; (try with_reducible rfl))); (case hs => kernel_rfl); (case hf => kernel_rfl); (case hr => kernel_rfl); (case hQ => exact fun _ _ _ h => h); (case hS => assumption); (try simp only [Act.put, List.setIfInBounds_toArray, List.set_cons_zero, List.set_cons_succ, Nat.reduceAdd])) | (apply skA; (case hi => (simp only [List.getElem?_toArray, List.getElem?_cons_zero, List.getElem?_cons_succ]; rfl)); (case hw => rfl); (case hs => kernel_rfl); (case hf => kernel_rfl); (case hr => kernel_rfl); (case hQ => exact fun _ _ _ h => h); (case hS => assumption); (try simp only [Act.put, List.setIfInBounds_toArray, List.set_cons_zero, List.set_cons_succ, Nat.reduceAdd])))
    change wpAnyH _ _ _ _ _ _ _ _ _
    change At 15 _
    iterate 3 (first | (apply tkA; (case hi => (simp only [List.getElem?_toArray, List.getElem?_cons_zero, List.getElem?_cons_succ]; rfl)); (case hw => rfl); (case hy => (intro w' hSw; have q3 := r3 w' hSw; (try simp only [S] at hSw); go_simp; (try with_reducible rfl))); (case hs => kernel_rfl); (case hf => kernel_rfl); (case hr => kernel_rfl); (case hQ => exact fun _ _ _ h => h); (case hS => assumption); (try simp only [Act.put, List.setIfInBounds_toArray, List.set_cons_zero, List.set_cons_succ, Nat.reduceAdd])) | (apply skA; (case hi => (simp only [List.getElem?_toArray, List.getElem?_cons_zero, List.getElem?_cons_succ]; rfl)); (case hw => rfl); (case hs => kernel_rfl); (case hf => kernel_rfl); (case hr => kernel_rfl); (case hQ => exact fun _ _ _ h => h); (case hS => assumption); (try simp only [Act.put, List.setIfInBounds_toArray, List.set_cons_zero, List.set_cons_succ, Nat.reduceAdd])))
    change wpAnyH _ _ _ _ _ _ _ _ _
    refine wpAnyH_ready (rs := [14]) (by kernel_rfl) (by simp) (AllReadyH.cons (o := ?oo14_1) ?hoo14_1 (fun K hK => ?steponly1) AllReadyH.nil); (case hoo14_1 => (simp only [List.getElem?_toArray, List.getElem?_cons_zero, List.getElem?_cons_succ]; rfl))
    go_simp
    refine Calls.mono (hbest Z.drew hS0) ?_
    rintro e x1 ⟨A1, m1, c1, rfl, hiv1, hbx1⟩
    have hS1 : S x1 := (show Below Z.heap.size Z Z.drew from hS0).trans hbx1
    refine hK.out _ _ hS1 (fun _ => ?_)
    clear hK K hbest
    (try simp only [Act.put, List.setIfInBounds_toArray, List.set_cons_zero, List.set_cons_succ])
    refine wpAnyH_ready (rs := [18]) (by kernel_rfl) (by simp) (AllReadyH.cons (o := ?oo18_2) ?hoo18_2 (fun K hK => ?steponly2) AllReadyH.nil); (case hoo18_2 => (simp only [List.getElem?_toArray, List.getElem?_cons_zero, List.getElem?_cons_succ]; rfl))
    go_simp
    refine Calls.mono (hrbest x1 hS1) ?_
    rintro e x2 ⟨A2, m2, c2, rfl, hiv2, hbx2⟩
    have hz1 := (show Below Z.heap.size Z x1 from hS1).size
    have hS2 : S x2 := (show Below Z.heap.size Z x1 from hS1).trans (hbx2.mono hz1)
    refine hK.out _ _ hS2 (fun _ => ?_)
    clear hK K hrbest
    (try simp only [Act.put, List.setIfInBounds_toArray, List.set_cons_zero, List.set_cons_succ])
    have hway := way_same (t := BW.total) (o := 0) x2 (hiv1.nxt hbx2) hiv2 (by have := hiv1.len; omega) (fun w h1 h2 => keepi_true w h1 h2 (by have := hiv1.len; omega))
    refine wpAnyH_ready (rs := [19]) (by kernel_rfl) (by simp) (AllReadyH.cons (o := ?oo19_3) ?hoo19_3 (fun K hK => ?steponly3) AllReadyH.nil); (case hoo19_3 => (simp only [List.getElem?_toArray, List.getElem?_cons_zero, List.getElem?_cons_succ]; rfl))
    go_simp
    refine Calls.mono hway ?_
    rintro e x3 ⟨rfl, hbx3⟩
    have hz2' := (show Below Z.heap.size Z x2 from hS2).size
    have hS3 : S x3 := (show Below Z.heap.size Z x2 from hS2).trans (hbx3.mono hz2')
    refine hK.out _ _ hS3 (fun _ => ?_)
    clear hK K hway
    (try simp only [Act.put, List.setIfInBounds_toArray, List.set_cons_zero, List.set_cons_succ])
    change At 20 _
    iterate 4 (first | (apply tkA; (case hi => (simp only [List.getElem?_toArray, List.getElem?_cons_zero, List.getElem?_cons_succ]; rfl)); (case hw => rfl); (case hy => (intro w' hSw; (try simp only [S] at hSw); go_simp; (try with_reducible rfl))); (case hs => kernel_rfl); (case hf => kernel_rfl); (case hr => kernel_rfl); (case hQ => exact fun _ _ _ h => h); (case hS => assumption); (try simp only [Act.put, List.setIfInBounds_toArray, List.set_cons_zero, List.set_cons_succ, Nat.reduceAdd])) | (apply skA; (case hi => (simp only [List.getElem?_toArray, List.getElem?_cons_zero, List.getElem?_cons_succ]; rfl)); (case hw => rfl); (case hs => kernel_rfl); (case hf => kernel_rfl); (case hr => kernel_rfl); (case hQ => exact fun _ _ _ h => h); (case hS => assumption); (try simp only [Act.put, List.setIfInBounds_toArray, List.set_cons_zero, List.set_cons_succ, Nat.reduceAdd])))
    change wpAnyH _ _ _ _ _ _ _ _ _
    have hlines := lines_same x3 (HZ.out.2.1.nxt (show Below Z.heap.size Z x3 from hS3)) (HZ.out.2.2.1.nxt (show Below Z.heap.size Z x3 from hS3)) HZ.out.2.2.2 (by omega)
    refine wpAnyH_ready (rs := [24]) (by kernel_rfl) (by simp) (AllReadyH.cons (o := ?oo24_4) ?hoo24_4 (fun K hK => ?steponly4) AllReadyH.nil); (case hoo24_4 => (simp only [List.getElem?_toArray, List.getElem?_cons_zero, List.getElem?_cons_succ]; rfl))
    go_simp
    refine Calls.mono hlines ?_
    rintro e x4 ⟨rfl, hbx4⟩
    have hz3' := (show Below Z.heap.size Z x3 from hS3).size
    have hS4 : S x4 := (show Below Z.heap.size Z x3 from hS3).trans (hbx4.mono hz3')
    refine hK.out _ _ hS4 (fun _ => ?_)
    clear hK K hlines
    (try simp only [Act.put, List.setIfInBounds_toArray, List.set_cons_zero, List.set_cons_succ])
    change At 25 _
    iterate 2 (first | (apply tkA; (case hi => (simp only [List.getElem?_toArray, List.getElem?_cons_zero, List.getElem?_cons_succ]; rfl)); (case hw => rfl); (case hy => (intro w' hSw; (try simp only [S] at hSw); go_simp; (try with_reducible rfl))); (case hs => kernel_rfl); (case hf => kernel_rfl); (case hr => kernel_rfl); (case hQ => exact fun _ _ _ h => h); (case hS => assumption); (try simp only [Act.put, List.setIfInBounds_toArray, List.set_cons_zero, List.set_cons_succ, Nat.reduceAdd])) | (apply skA; (case hi => (simp only [List.getElem?_toArray, List.getElem?_cons_zero, List.getElem?_cons_succ]; rfl)); (case hw => rfl); (case hs => kernel_rfl); (case hf => kernel_rfl); (case hr => kernel_rfl); (case hQ => exact fun _ _ _ h => h); (case hS => assumption); (try simp only [Act.put, List.setIfInBounds_toArray, List.set_cons_zero, List.set_cons_succ, Nat.reduceAdd])))
    change wpAnyH _ _ _ _ _ _ _ _ _
    refine wpAnyH_ready (rs := [27]) (by kernel_rfl) (by simp) (AllReadyH.cons (o := ?oo27_5) ?hoo27_5 (fun K hK => ?steponly5) AllReadyH.nil); (case hoo27_5 => (simp only [List.getElem?_toArray, List.getElem?_cons_zero, List.getElem?_cons_succ]; rfl))
    go_simp
    refine Calls.mono (wakes20_any x4) ?_
    rintro e x5 ⟨rfl, hbx5⟩
    have hz4' := (show Below Z.heap.size Z x4 from hS4).size
    have hS5 : S x5 := (show Below Z.heap.size Z x4 from hS4).trans (hbx5.mono hz4')
    refine hK.out _ _ hS5 (fun _ => ?_)
    clear hK K
    (try simp only [Act.put, List.setIfInBounds_toArray, List.set_cons_zero, List.set_cons_succ])
    change At 28 _
    iterate 2 (first | (apply tkA; (case hi => (simp only [List.getElem?_toArray, List.getElem?_cons_zero, List.getElem?_cons_succ]; rfl)); (case hw => rfl); (case hy => (intro w' hSw; (try simp only [S] at hSw); go_simp; (try with_reducible rfl))); (case hs => kernel_rfl); (case hf => kernel_rfl); (case hr => kernel_rfl); (case hQ => exact fun _ _ _ h => h); (case hS => assumption); (try simp only [Act.put, List.setIfInBounds_toArray, List.set_cons_zero, List.set_cons_succ, Nat.reduceAdd])) | (apply skA; (case hi => (simp only [List.getElem?_toArray, List.getElem?_cons_zero, List.getElem?_cons_succ]; rfl)); (case hw => rfl); (case hs => kernel_rfl); (case hf => kernel_rfl); (case hr => kernel_rfl); (case hQ => exact fun _ _ _ h => h); (case hS => assumption); (try simp only [Act.put, List.setIfInBounds_toArray, List.set_cons_zero, List.set_cons_succ, Nat.reduceAdd])))
    change wpAnyH _ _ _ _ _ _ _ _ _
    refine wpAnyH_done (by kernel_rfl) ?_ _
    have HE := Lib.hid (bNext HZ.out.1 (show Below Z.heap.size Z x5 from hS5))
    clear hS0 hS1 hS2 hS3 hS4 hS5 r1 r2 r3 hbx1 hbx2 hbx3 hbx4 hbx5 hiv1 hiv2
    go_wp2_with fail
    go_ret
    exact Ret.mk (vbool (by simp)) HE.out
set_option maxRecDepth 100000 in
theorem pagesTell_walk {H : Type} {enc : TypeId × Value → H} {W : World} {base : Nat} {v0 v1 : Value} {d0 d1 : DataW H} {p0 p1 : List MemPlace}
    (k0 : Value.okWide Try.prog W .any base 22 v0) (h0 : DataW.Trod enc Try.prog W 0 (fun _ => true) true 22 v0 d0 p0)
    (k1 : Value.okWide Try.prog W .any base 23 v1) (h1 : DataW.Trod enc Try.prog W 0 (fun _ => true) true 23 v1 d1 p1)
    : Calls Try.prog 3 #[v0, v1] W fun e W' => e = .returned (.bool true) ∧ Below W.heap.size W W' := by
  obtain ⟨A, n, c, l, rfl, hl, hcm⟩ := open_lines k0 h0
  obtain ⟨q, hq, rfl, -⟩ := open_ints_arr Try.underlying23 Try.underlying3 (by kernel_rfl) (by kernel_rfl) k1 h1
  match q, hq with
  | [x, y, z], _ => exact tell_core W hl hcm
end Go.Proofs.Ytdnpcplboohdpaa
