/- The walk over PagesApart. -/
import Derived.Test.YtdnpcplboohdpaaPgWakes
import Derived.Test.YtdnpcplboohdpaaPgFair
import Derived.Test.YtdnpcplboohdpaaPgLaw3
import Derived.Test.YtdnpcplboohdpaaPgCosts
namespace Go.Proofs.Ytdnpcplboohdpaa
set_option linter.unusedSimpArgs false
set_option linter.unusedVariables false
open Go.RowKit Go.ChangeShapes Go.WideShapes Go.Sort

theorem whole_rng {l : List LN} {h : Int} (hh : h ≤ 20) {f : Nat} {E : List Int} {c : Int} (hw : Whole l h f E c) : f ≤ l.length → 0 ≤ c ∧ c ≤ 10000 * (E.length : Int) ∧ f + E.length ≤ l.length ∧ ∀ z ∈ E, 0 ≤ z ∧ z ≤ (l.length : Int) := by
  induction hw with
  | done hd => intro hf; exact ⟨by omega, by simp, by simpa using hf, by simp⟩
  | skip hx _ _ ih =>
    intro _
    have := (List.getElem?_eq_some_iff.1 hx).1
    obtain ⟨h1, h2, h3, h4⟩ := ih (by omega)
    exact ⟨h1, h2, by omega, h4⟩
  | page ho _ ih =>
    intro _
    obtain ⟨h1, h2, h3, h4⟩ := pgOk_iff.1 ho
    obtain ⟨g1, g2, g3, g4⟩ := ih h2
    have hp := price_rng hh ho
    refine ⟨by omega, by rw [List.length_cons]; omega, by rw [List.length_cons]; omega, fun z hz => ?_⟩
    rcases List.mem_cons.1 hz with rfl | hz
    · omega
    · exact g4 z hz
theorem newRow2 (w : World) (z cs cs' : Array Value) (t : TypeId) : ((w.alloc (.cells z t)).alloc (.cells z t)).heap[w.heap.size]? = some (.cells z t) ∧ (((w.alloc (.cells z t)).alloc (.cells z t)).setRow w.heap.size cs).heap[w.heap.size + 1]? = some (.cells z t) ∧
    ∃ Y, (((w.alloc (.cells z t)).alloc (.cells z t)).setRow w.heap.size cs).setRow (w.heap.size + 1) cs' = Y ∧ Y.heap[w.heap.size]? = some (.cells cs t) ∧ Y.heap[w.heap.size + 1]? = some (.cells cs' t) ∧ Below w.heap.size w Y := by
  have h1 := alloc_two w (.cells z t) (.cells z t)
  have h2 : (((w.alloc (.cells z t)).alloc (.cells z t)).setRow w.heap.size cs).heap[w.heap.size + 1]? = some (.cells z t) := (setRow_other _ _ _ _ (by omega)).trans h1.2
  refine ⟨h1.1, h2, _, rfl, ?_, setRow_heap _ _ _ _ _ _ h2, ?_⟩
  · exact (setRow_other _ _ _ _ (by omega)).trans (setRow_heap _ _ _ _ _ _ h1.1)
  · exact bSetRow (bSetRow (((Below.refl _ w).alloc (Nat.le_refl _) _).alloc (by rw [World.size_alloc]; omega) _) (Nat.le_refl _) _) (Nat.le_succ _) _
def ejL : LN := ⟨4, false, false, false, .slice none 0 0⟩
theorem at_app {x y : List Int} {i : Nat} {v : Int} (h : i < x.length) (hv : x[i]? = some v) : (x ++ y)[i]? = some v := by rw [List.getElem?_append_left h]; exact hv
set_option maxHeartbeats 16000000 in
set_option maxRecDepth 100000 in
theorem apart_core {A B : Option Addr} {n c m d : Nat} {la lb : List (LN × List PC)} {hv : Int} (w : World) (ha : RnAt w w.heap.size A n c la) (hc : c ≤ maxLen) (hb : RnAt w w.heap.size B m d lb) (hd : d ≤ maxLen) (h0 : 0 ≤ hv) (h1 : hv < 256) :
    Calls Try.prog 7 #[.slice A n c, .slice B m d, .int .u8 hv] w (Ret w (.bool true)) := by
  have hfair := fair_any w ha hc
  have hfairB := fun W (hbW : Below w.heap.size w W) => fair_any W (hb.nxt hbW) hd
  unfold FairP at hfair hfairB
  have honeA := ha.one
  have hlnA := ha.ln
  have honeB := hb.one
  have hlnB := hb.ln
  obtain ⟨L, hL⟩ : ∃ q, lnsOf la = q := ⟨_, rfl⟩
  obtain ⟨M, hM⟩ : ∃ q, lnsOf lb = q := ⟨_, rfl⟩
  rw [hL] at honeA hlnA
  rw [hM] at honeB hlnB
  obtain ⟨h, hh⟩ : ∃ h : Nat, 3 + hv % 18 = (h : Int) := ⟨(3 + hv % 18).toNat, by omega⟩
  have h3 : 3 ≤ h ∧ h ≤ 20 := by omega
  have e1 : IntKind.i64.wrap hv = hv := wrap_small _ (by omega) (by omega)
  have e2 : hv.tmod 18 = hv % 18 := Int.tmod_eq_emod_of_nonneg h0
  have e3 : IntKind.i64.wrap (hv % 18) = hv % 18 := wrap_small _ (by omega) (by omega)
  have e4 : IntKind.i64.wrap (3 + hv % 18) = h := by rw [hh]; exact wrap_small _ (by omega) (by omega)
  have HL := Lib.hid (And.intro hlnA (And.intro honeA (And.intro hlnB (And.intro honeB hh))))
  have HF := Lib.hid hfairB
  clear ha hb hL hM hlnA hlnB honeA honeB hh hc hd hfairB
  go_enter Try.func7, Try.ntmps7
  go_upto_region 1 with (fail)
  go_wp2_with fail
  refine Calls.mono hfair ?_
  rintro e w1 ⟨b, rfl, hn1, hb1⟩
  clear hfair
  cases b with
  | false =>
    have HB := Lib.hid hb1
    clear hb1 hn1
    go_wp2_with fail
    refine Calls.mono (wakes20_any w1) ?_
    rintro e w2 ⟨rfl, hb2⟩
    go_wp2_with fail
    go_ret
    exact Ret.mk rfl (bNext HB.out hb2)
  | true =>
  have hfB := HF.out w1 hb1
  have hn4 := (hn1 rfl).1
  have HB := Lib.hid hb1
  clear hb1 hn1 HF
  go_wp2_with fail
  refine Calls.mono hfB ?_
  rintro e w1b ⟨b, rfl, hm1, hb1b⟩
  clear hfB
  have HB1 := Lib.hid (bNext HB.out hb1b)
  clear hb1b HB
  cases b with
  | false =>
    clear hm1
    go_wp2_with fail
    refine Calls.mono (wakes20_any w1b) ?_
    rintro e w2 ⟨rfl, hb2⟩
    go_wp2_with fail
    go_ret
    exact Ret.mk rfl (bNext HB1.out hb2)
  | true =>
  have hm4 := (hm1 rfl).1
  clear hm1
  have e5 : IntKind.i64.wrap ((n : Int) + (m : Int)) = (n : Int) + (m : Int) := wrap_small _ (by omega) (by omega)
  by_cases hn : 290 < n + m
  · have hn' : (290 : Int) < (n : Int) + (m : Int) := by omega
    go_wp2_with fail
    refine Calls.mono (wakes20_any w1b) ?_
    rintro e w2 ⟨rfl, hb2⟩
    go_wp2_with fail
    go_ret
    exact Ret.mk rfl (bNext HB1.out hb2)
  · have hn' : ¬ (290 : Int) < (n : Int) + (m : Int) := by omega
    have hbA := best_any (h := (h : Int)) w1b (HL.out.1.nxt HB1.out) HL.out.2.1
    have hbB := fun W (hbW : Below w1b.heap.size w1b W) => best_any (h := (h : Int)) W (HL.out.2.2.1.nxt (bNext HB1.out hbW)) HL.out.2.2.2.1
    have hlenL := HL.out.1.len
    have hlenM := HL.out.2.2.1.len
    have hap := best_apart (a := L) (b := M) (e := ejL) rfl (h := (h : Int)) (by omega) (by omega) (by omega)
    have hwA := whole_rng (by omega) (best_whole (l := L) (h := (h : Int)) (by omega) (by omega) (by omega)) (Nat.zero_le _)
    have hwB := whole_rng (by omega) (best_whole (l := M) (h := (h : Int)) (by omega) (by omega) (by omega)) (Nat.zero_le _)
    obtain ⟨BA, hBA⟩ : ∃ q, bestP L h = q := ⟨_, rfl⟩
    obtain ⟨BB, hBB⟩ : ∃ q, bestP M h = q := ⟨_, rfl⟩
    rw [hBA] at hbA hap hwA
    simp only [hBB] at hbB
    rw [hBB] at hap hwB
    rw [hlenL] at hap hwA
    rw [hlenM] at hwB
    unfold SecP wyv at hbA hbB
    have H1 := Lib.hid (And.intro hbB (And.intro hap (And.intro hwA (And.intro hwB (And.intro hlenL hlenM)))))
    clear hbB hBA hBB hap hwA hwB hlenL hlenM
    obtain ⟨zw, hzw⟩ : ∃ q, wyz = q := ⟨_, rfl⟩
    have hwz := wyZ
    have hz3 : wyz.size = 3 := rfl
    rw [hzw] at hwz hz3
    clear hzw
    go_upto_region 3 with (fail)
    go_upto_region 4 with (fail)
    go_wp2_with fail
    refine Calls.mono hbA ?_
    rintro e w2 ⟨A6, m6, c6, rfl, hiv, hb2⟩
    clear hbA
    have hbB := H1.out.1 w2 hb2
    have HI := Lib.hid (And.intro hiv hb2)
    clear hiv hb2
    go_wp2_with fail
    refine Calls.mono hbB ?_
    rintro e w3 ⟨A7, m7, c7, rfl, hiv7, hb3⟩
    clear hbB
    have hiv6 := HI.out.1.nxt hb3
    have hb13 := bNext HI.out.2 hb3
    obtain ⟨cx, hcx⟩ : ∃ q : Array Value, #[.slice A6 m6 c6, .int .i64 BA.total, .int .i64 0] = q := ⟨_, rfl⟩
    obtain ⟨cy, hcy⟩ : ∃ q : Array Value, #[.slice A7 m7 c7, .int .i64 BB.total, .int .i64 0] = q := ⟨_, rfl⟩
    rw [hcx, hcy]
    have hwi : (Try.prog.info? 35).map (·.size) = some cx.size := by rw [← hcx]; exact wy_size
    have hzc : zw.size = cx.size := by rw [hz3, ← hcx]; rfl
    have hk1 : cx.all (·.oneCell') = true := by rw [← hcx]; simp [Value.oneCell']
    have hwiy : (Try.prog.info? 35).map (·.size) = some cy.size := by rw [← hcy]; exact wy_size
    have hzcy : zw.size = cy.size := by rw [hz3, ← hcy]; rfl
    have hk1y : cy.all (·.oneCell') = true := by rw [← hcy]; simp [Value.oneCell']
    obtain ⟨hh1, hh2, Y, hY, yx, yy, bY⟩ := newRow2 w3 zw cx cy 35
    rw [← hcx] at yx
    rw [← hcy] at yy
    have kx0 : Y.cell? ⟨w3.heap.size, 0, none⟩ = some (.slice A6 m6 c6) := blk_cell yx rfl
    have kx1 : Y.cell? ⟨w3.heap.size, 1, none⟩ = some (.int .i64 BA.total) := blk_cell yx rfl
    have ky0 : Y.cell? ⟨w3.heap.size + 1, 0, none⟩ = some (.slice A7 m7 c7) := blk_cell yy rfl
    have ky1 : Y.cell? ⟨w3.heap.size + 1, 1, none⟩ = some (.int .i64 BB.total) := blk_cell yy rfl
    have hltx := (Array.getElem?_eq_some_iff.1 yx).1
    have hlty := (Array.getElem?_eq_some_iff.1 yy).1
    have hbwY := bNext HB1.out (hb13.trans (bY.mono hb13.size))
    have hm6 := hiv6.len
    have hm7 := hiv7.len
    have HY := Lib.hid (And.intro (HL.out.1.nxt hbwY) (And.intro (HL.out.2.2.1.nxt hbwY) (And.intro (hiv6.nxt bY) (And.intro (hiv7.nxt bY) (And.intro hbwY (And.intro kx0 (And.intro kx1 (And.intro ky0 ky1))))))))
    clear yx yy bY hiv6 hiv7 hb13 hb3 HI kx0 kx1 ky0 ky1 hbwY
    go_simp
    rename_i HK
    apply HK
    refine wpList_new rfl hwz rfl ?_
    refine wpList_new rfl hwz rfl ?_
    rw [show (w3.alloc (.cells zw 35)).heap.size = w3.heap.size + 1 from World.size_alloc _ _]
    (try simp only [Act.put, List.setIfInBounds_toArray, List.set_cons_zero, List.set_cons_succ])
    refine wpList_store_row rfl 35 (.tmp 8) (.tmp 37) rfl _ cx rfl rfl _ zw (by exact hh1) hwi hzc hk1 ?_
    refine wpList_store_row rfl 35 (.tmp 9) (.tmp 40) rfl _ cy rfl rfl _ zw (by exact hh2) hwiy hzcy hk1y ?_
    rw [hY]
    clear hY hh1 hh2 hwi hzc hk1 hwiy hzcy hk1y hcx hcy
    obtain ⟨D1, hD1⟩ : ∃ q, w3.heap.size = q := ⟨_, rfl⟩
    obtain ⟨D2, hD2⟩ : ∃ q, D1 + 1 = q := ⟨_, rfl⟩
    rw [hD1] at HY hltx hlty
    rw [hD2] at HY hlty
    rw [hD1]
    rw [hD2]
    clear hD1 hD2
    go_upto_region 5 with (fail)
    obtain ⟨ct, bt, hct⟩ : ∃ ct : List Value, Try.prog.built 45 [(0, .int .i64 4)] = some ct.toArray ∧ ct = ejL.cells := ⟨ejL.cells, by kernel_rfl, rfl⟩
    have ht5 : ct.length = 5 := by rw [hct]; rfl
    have hs1 := fun W => run_slice1 (P := Try.prog) (t := 22) lnZ Try.underlying22 (s := 5) rfl (by omega) (by omega) ct ht5 W
    have hone : ∀ u ∈ ct, u.oneCell' = true := by rw [hct]; intro u hu; simp only [LN.cells, ejL, List.mem_cons, List.mem_nil_iff, or_false] at hu; rcases hu with rfl | rfl | rfl | rfl | rfl <;> rfl
    refine wp_region_lit ?_
    refine wpList_slice rfl 22 0 #[] rfl (by simp only [List.map_toArray, List.map_nil]; exact hs0 Y) ?_
    (try simp only [Act.put, List.setIfInBounds_toArray, List.set_cons_zero, List.set_cons_succ])
    iterate 3 (first | go_guarded | go_step)
    have hS0 : Below Y.heap.size Y (Y.alloc (.cells #[] 45)) := (Below.refl _ _).alloc (Nat.le_refl _) _
    refine wpList_app _ rfl (.tmp 41) (.tmp 42) 22 rfl (base := Y.heap.size) Try.underlying22 elemLn rfl (own_none' Y Y.heap.size 45 5 (Nat.le_refl _)) rfl (HY.out.1.sl.below hS0) (one_lns HL.out.2.1) (by simp only [maxLen]; omega) (by omega) hS0.size ?_
    intro A43 c43 w43 hown43 hg43 hb43 hat43
    simp only [Nat.zero_add, List.nil_append] at hown43 ⊢
    have hS1 := hS0.trans hb43
    clear hg43 hb43 hat43
    (try simp only [Act.put, List.setIfInBounds_toArray, List.set_cons_zero, List.set_cons_succ])
    refine wpList_built rfl 45 #[(0, .const (.int .i64 4))] rfl (cs := ct.toArray) (by simp only [List.map_toArray, List.map_cons, List.map_nil]; exact bt) ?_
    (try simp only [Act.put, List.setIfInBounds_toArray, List.set_cons_zero, List.set_cons_succ])
    refine wpList_slice rfl 22 1 #[(0, .tmp 44)] rfl (by simp only [List.map_toArray, List.map_cons, List.map_nil]; exact hs1 w43) ?_
    (try simp only [Act.put, List.setIfInBounds_toArray, List.set_cons_zero, List.set_cons_succ])
    have hS2 : Below Y.heap.size Y (w43.alloc (.cells ct.toArray 45)) := hS1.alloc hS1.size _
    refine wpList_app _ rfl (.tmp 43) (.tmp 45) 22 rfl (base := Y.heap.size) Try.underlying22 elemLn rfl (hown43.alloc _) rfl (Sl.new (n := 1) (heap_alloc_new _ _) (by simpa using ht5)) hone (by simp only [maxLen]; omega) (by omega) hS2.size ?_
    intro A46 c46 w46 hown46 hg46 hb46 hat46
    have hS3 := hS2.trans hb46
    clear hg46 hb46 hat46
    (try simp only [Act.put, List.setIfInBounds_toArray, List.set_cons_zero, List.set_cons_succ])
    iterate 3 (first | go_guarded | go_step)
    refine wpList_app _ rfl (.tmp 46) (.tmp 47) 22 rfl (base := Y.heap.size) Try.underlying22 elemLn rfl hown46 rfl (HY.out.2.1.sl.below hS3) (one_lns HL.out.2.2.2.1) (by simp only [maxLen]; omega) (by omega) hS3.size ?_
    intro A48 c48 w48 hown48 hg48 hb48 hat48
    have hS4 := hS3.trans hb48
    clear hg48 hb48 hat48
    (try simp only [Act.put, List.setIfInBounds_toArray, List.set_cons_zero, List.set_cons_succ])
    have hall : LnAt w48 w48.heap.size A48 (n + 1 + m) c48 (L ++ ejL :: M) := by
      refine own_ln (base := Y.heap.size) ?_ ?_ ?_
      · rw [lns_append, show lns (ejL :: M) = ejL.cells ++ lns M from rfl, ← hct, ← List.append_assoc]; exact hown48
      · rw [List.length_append, List.length_cons, H1.out.2.2.2.2.1, H1.out.2.2.2.2.2]; omega
      · intro x hx
        rcases List.mem_append.1 hx with hx | hx
        · exact HL.out.1.wide x hx
        · rcases List.mem_cons.1 hx with rfl | hx
          · exact ⟨by decide, by decide⟩
          · exact HL.out.2.2.1.wide x hx
    have hallone : ∀ x ∈ L ++ ejL :: M, x.One := by
      intro x hx
      rcases List.mem_append.1 hx with hx | hx
      · exact HL.out.2.1 x hx
      · rcases List.mem_cons.1 hx with rfl | hx
        · rfl
        · exact HL.out.2.2.2.1 x hx
    have hbest := best_any (h := (h : Int)) w48 hall hallone
    rw [H1.out.2.1] at hbest
    unfold SecP wyv at hbest
    have HS4 := Lib.hid hS4
    clear hS0 hS1 hS2 hS3 hS4 hown43 hown46 hown48 hall hallone hct bt ht5 hs1 hone
    obtain ⟨q, hq⟩ : ∃ q, n + 1 + m = q := ⟨_, rfl⟩
    rw [hq] at hbest ⊢
    have HQ := Lib.hid hq
    clear hq
    go_upto_region 6 with (fail)
    go_wp2_with fail
    refine Calls.mono hbest ?_
    rintro e w5 ⟨A8, m8, c8, rfl, hiv8, hb5⟩
    clear hbest
    obtain ⟨cw, hcw⟩ : ∃ q : Array Value, #[.slice A8 m8 c8, .int .i64 (BA.total + BB.total), .int .i64 0] = q := ⟨_, rfl⟩
    rw [hcw]
    have hwi : (Try.prog.info? 35).map (·.size) = some cw.size := by rw [← hcw]; exact wy_size
    have hzc : zw.size = cw.size := by rw [hz3, ← hcw]; rfl
    have hk1 : cw.all (·.oneCell') = true := by rw [← hcw]; simp [Value.oneCell']
    obtain ⟨Z, hZ, yz, bZ⟩ := newRow w5 zw cw 35
    rw [← hcw] at yz
    have kz0 : Z.cell? ⟨w5.heap.size, 0, none⟩ = some (.slice A8 m8 c8) := blk_cell yz rfl
    have kz1 : Z.cell? ⟨w5.heap.size, 1, none⟩ = some (.int .i64 (BA.total + BB.total)) := blk_cell yz rfl
    have hltz := (Array.getElem?_eq_some_iff.1 yz).1
    have hYZ : Below Y.heap.size Y Z := bNext HS4.out (hb5.trans (bZ.mono hb5.size))
    have kx0 := (hYZ.cell (p := ⟨D1, 0, none⟩) hltx).trans HY.out.2.2.2.2.2.1
    have kx1 := (hYZ.cell (p := ⟨D1, 1, none⟩) hltx).trans HY.out.2.2.2.2.2.2.1
    have ky0 := (hYZ.cell (p := ⟨D2, 0, none⟩) hlty).trans HY.out.2.2.2.2.2.2.2.1
    have ky1 := (hYZ.cell (p := ⟨D2, 1, none⟩) hlty).trans HY.out.2.2.2.2.2.2.2.2
    have hD1 : D1 < Z.heap.size := by have := hYZ.size; omega
    have hD2 : D2 < Z.heap.size := by have := hYZ.size; omega
    have hm8 := hiv8.len
    rw [List.length_append, List.length_map, hm6, hm7] at hm8
    have HZ := Lib.hid (And.intro (hiv8.nxt bZ) (And.intro (HY.out.2.2.1.nxt hYZ) (And.intro (HY.out.2.2.2.1.nxt hYZ) (bNext HY.out.2.2.2.2.1 hYZ))))
    clear yz bZ hYZ hiv8 hb5 hltx hlty HS4
    obtain ⟨D3, hD3⟩ : ∃ q, w5.heap.size = q := ⟨_, rfl⟩
    go_upto_region 7 with (first
      | (refine wpList_new rfl hwz rfl ?_)
      | (refine wpList_store_row rfl 35 (.tmp 11) (.tmp 51) rfl _ cw rfl rfl _ zw (heap_alloc_new _ _) hwi hzc hk1 ?_)
      | fail)
    try rw [hZ]
    rw [hD3] at kz0 kz1 hltz ⊢
    clear hZ hcw hwi hzc hk1 hD3
    obtain ⟨⟨a1, a2, a3, a4⟩, ⟨b1, b2, b3, b4⟩, -, -⟩ := H1.out.2.2
    rw [hm6] at a2 a3
    rw [hm7] at b2 b3
    have g1 : IntKind.i64.wrap (BA.total + BB.total) = BA.total + BB.total := wrap_small _ (by omega) (by omega)
    have g2 : IntKind.i64.wrap ((m6 : Int) + (m7 : Int)) = (m8 : Int) := by rw [wrap_small _ (by omega) (by omega)]; omega
    have HV := Lib.hid (And.intro a4 b4)
    clear a4 b4
    go_upto_region 9 with (fail)
    go_wp2_with fail
    clear kx1 ky1 kz1 g1 g2 a1 a2 b1 b2
    go_loopw [12] (fun s12 wr => ∃ i : Nat, i ≤ m8 ∧ s12 = .int .i64 i ∧ wr = Z) (fun i _ => m8 - (intOf i).toNat)
    case atStart => exact ⟨0, by omega, rfl, rfl⟩
    case round =>
      obtain ⟨i, hi, rfl, rfl⟩ := hrel
      by_cases hi8 : i < m8
      · have hi8' : (i : Int) < (m8 : Int) := by omega
        have hi0 : (0 : Int) ≤ (i : Int) := by omega
        have g1 : IntKind.i64.wrap ((i : Int) + 1) = ((i + 1 : Nat) : Int) := by rw [wrap_small _ (by omega) (by omega)]; omega
        by_cases hi6 : i < m6
        · have hi6' : (i : Int) < (m6 : Int) := by omega
          obtain ⟨v, hv⟩ : ∃ v, BA.ends[i]? = some v := ⟨_, List.getElem?_eq_getElem (by rw [hm6]; exact hi6)⟩
          obtain ⟨bx, ox, rfl, hbx, hx⟩ := HZ.out.2.1.entry hv
          obtain ⟨bz, oz, rfl, hbz, hz⟩ := HZ.out.1.entry (at_app (by rw [hm6]; exact hi6) hv)
          clear hv
          go_wp2_with fail
          go_roundw
          case rel => exact ⟨i + 1, by omega, by go_num, by trivial⟩
          case measure => simp [intOf]; omega
        · have hi6' : ¬ (i : Int) < (m6 : Int) := by omega
          obtain ⟨j, hj⟩ : ∃ j, m6 + j = i := ⟨i - m6, by omega⟩
          obtain ⟨v, hv⟩ : ∃ v, BB.ends[j]? = some v := ⟨_, List.getElem?_eq_getElem (by rw [hm7]; omega)⟩
          have hvr := HV.out.2 v (List.mem_of_getElem? hv)
          obtain ⟨bx, ox, rfl, hbx, hx⟩ := HZ.out.2.2.1.entry hv
          have hv2 : (BA.ends ++ BB.ends.map (· + ((n + 1 : Nat) : Int)))[i]? = some (v + ((n + 1 : Nat) : Int)) := by
            rw [List.getElem?_append_right (by rw [hm6]; omega), hm6, show i - m6 = j by omega, List.getElem?_map, hv]; rfl
          obtain ⟨bz, oz, rfl, hbz, hz⟩ := HZ.out.1.entry hv2
          obtain ⟨u, hu⟩ : ∃ u : Int, v + ((n + 1 : Nat) : Int) = u := ⟨_, rfl⟩
          rw [hu] at hz
          have g2 : IntKind.i64.wrap ((i : Int) - (m6 : Int)) = (j : Int) := by rw [wrap_small _ (by omega) (by omega)]; omega
          have g3 : IntKind.i64.wrap (v + (n : Int)) = v + (n : Int) := wrap_small _ (by omega) (by omega)
          have g4 : IntKind.i64.wrap (v + (n : Int) + 1) = u := by rw [wrap_small _ (by omega) (by omega)]; omega
          have hj0 : (0 : Int) ≤ (j : Int) := by omega
          have hj7 : (j : Int) < (m7 : Int) := by omega
          have HU := Lib.hid (And.intro hu hj)
          clear hv hv2 hu hj
          go_wp2_with fail
          go_roundw
          case rel => exact ⟨i + 1, by omega, by go_num, by trivial⟩
          case measure => simp [intOf]; omega
      · obtain rfl : i = m8 := by omega
        have hi8' : ¬ (i : Int) < (i : Int) := by omega
        rename World => Z
        go_wp2_with fail
        refine Calls.mono (wakes20_any Z) ?_
        rintro e w9 ⟨rfl, hb9⟩
        go_wp2_with fail
        go_ret
        exact Ret.mk (vbool (by simp)) (bNext HZ.out.2.2.2 hb9)
set_option maxRecDepth 100000 in
theorem pagesApart_walk {H : Type} {enc : TypeId × Value → H} {W : World} {base : Nat} {v0 v1 v2 : Value} {d0 d1 d2 : DataW H} {p0 p1 p2 : List MemPlace}
    (k0 : Value.okWide Try.prog W .any base 22 v0) (h0 : DataW.Trod enc Try.prog W 0 (fun _ => true) true 22 v0 d0 p0)
    (k1 : Value.okWide Try.prog W .any base 22 v1) (h1 : DataW.Trod enc Try.prog W 0 (fun _ => true) true 22 v1 d1 p1)
    (k2 : Value.okWide Try.prog W .any base 5 v2) (h2 : DataW.Trod enc Try.prog W 0 (fun _ => true) true 5 v2 d2 p2)
    : Calls Try.prog 7 #[v0, v1, v2] W fun e W' => e = .returned (.bool true) ∧ Below W.heap.size W W' := by
  obtain ⟨A, n, c, l, rfl, hl, hcm⟩ := open_lines k0 h0
  obtain ⟨B, m, d, l', rfl, hl', hdm⟩ := open_lines k1 h1
  obtain ⟨zb, rfl, _, _, wb⟩ := open_int Try.underlying5 k2 h2
  have hb := wf_u8 wb
  exact apart_core W hl hcm hl' hdm hb.1 (by omega)
end Go.Proofs.Ytdnpcplboohdpaa
