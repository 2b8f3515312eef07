/- The walk over pages.Best. -/
import Derived.Test.YtdnpcplboohdpaaPgSec
namespace Go.Proofs.Ytdnpcplboohdpaa
set_option linter.unusedSimpArgs false
set_option linter.unusedVariables false
open Go.RowKit Go.Sort

/-- section after section -/
def allW (l : List LN) (h : Int) : Nat → Nat → WY → WY
  | 0, _, acc => acc
  | q + 1, f, acc => if f ≤ l.length then allW l h q (ejP l f + 1) ⟨acc.ends ++ (secP l f (ejP l f) h).ends, acc.total + (secP l f (ejP l f) h).total⟩ else acc
def bestP (l : List LN) (h : Int) : WY := if 3 ≤ h ∧ h ≤ 20 ∧ l.length ≤ 300 then allW l h (l.length + 1) 0 ⟨[], 0⟩ else ⟨[], 0⟩
theorem allW_end {l : List LN} {h : Int} {f : Nat} {acc : WY} (hf : l.length < f) : ∀ q, allW l h q f acc = acc
  | 0 => rfl
  | q + 1 => by rw [allW, if_neg (by omega)]
theorem sec_ok {l : List LN} {a t : Nat} {h : Int} (hh : h ≤ 20) : okWY a (t - a) (secP l a t h) := by
  unfold secP
  cases ho : (fnd l a h (t - a))[t - a]?.join with
  | none => exact ⟨by simp, by simp; omega, by simp, by simp⟩
  | some y => exact fnd_ok hh _ _ y ho
def okAcc (n f : Nat) (y : WY) : Prop := 0 ≤ y.total ∧ y.total ≤ 10000 * (f : Int) ∧ y.ends.length ≤ f ∧ ∀ z ∈ y.ends, 0 ≤ z ∧ z ≤ (n : Int)
theorem acc_ok {n f t : Nat} {l : List LN} {h : Int} {acc : WY} (hh : h ≤ 20) (hft : f ≤ t) (htn : t ≤ n) (ha : okAcc n f acc) : okAcc n (t + 1) ⟨acc.ends ++ (secP l f t h).ends, acc.total + (secP l f t h).total⟩ := by
  obtain ⟨h1, h2, h3, h4⟩ := ha
  obtain ⟨g1, g2, g3, g4⟩ := sec_ok (l := l) (a := f) (t := t) hh
  refine ⟨by simp only; omega, by simp only; omega, by simp only [List.length_append]; omega, fun z hz => ?_⟩
  rcases List.mem_append.1 hz with hz | hz
  · exact h4 z hz
  · have := g4 z hz
    omega
set_option maxRecDepth 100000 in
theorem best_no {A : Option Addr} {n c : Nat} {h : Int} (w : World) (hw : h < 3 ∨ (3 ≤ h ∧ 20 < h) ∨ (3 ≤ h ∧ h ≤ 20 ∧ 300 < n)) : Calls Try.prog 14 #[.slice A n c, .int .i64 h] w (SecP w ⟨[], 0⟩) := by
  have hb0 : Try.prog.built 35 [] = some wyz := by kernel_rfl
  have hwz := wyZ
  have hw3 : (Try.prog.info? 35).map (·.size) = some wyz.size := wy_size
  have hc1 : wyz.all (·.oneCell') = true := by simp [wyz, Value.oneCell']
  obtain ⟨zw, hzw⟩ : ∃ q, wyz = q := ⟨_, rfl⟩
  rw [hzw] at hb0 hwz hw3 hc1
  have HZ := Lib.hid hzw
  clear hzw
  have hfin : ∀ X9 : World, X9.heap[w.heap.size]? = some (.cells zw 35) → Below w.heap.size w X9 → SecP w ⟨[], 0⟩ (.returned (.agg zw)) X9 := fun X9 _ hB => ⟨none, 0, 0, by rw [← HZ.out]; rfl, ⟨by simp, rfl, Sl.nil, Nat.le_refl _⟩, hB⟩
  have HFI := Lib.hid hfin
  clear hfin
  go_enter Try.func14, Try.ntmps14
  go_upto_region 1 with (first | (refine wpList_new rfl hwz rfl ?_) | fail)
  obtain ⟨W, hW⟩ : ∃ q, w.alloc (.cells zw 35) = q := ⟨_, rfl⟩
  have y4 : W.heap[w.heap.size]? = some (.cells zw 35) := by rw [← hW]; exact heap_alloc_new _ _
  have hB : Below w.heap.size w W := by rw [← hW]; exact (Below.refl _ _).alloc (Nat.le_refl _) _
  rw [hW]
  clear hW
  have HB := Lib.hid hB
  clear hB
  rcases hw with g1 | ⟨g1, g2⟩ | ⟨g1, g2, g3⟩
  · go_wp2_with (first
      | (refine wpList_built rfl 35 #[] rfl (cs := zw) (by simp only [List.map_toArray, List.map_nil]; exact hb0) ?_)
      | (refine wpList_store_row rfl 35 (.tmp 4) (.tmp 20) rfl _ zw rfl rfl _ zw y4 hw3 rfl hc1 ?_)
      | fail)
    generalize hX : World.setRow _ _ _ = X9
    have b9 : X9.heap[w.heap.size]? = some (.cells zw 35) := by rw [← hX]; exact setRow_heap _ _ _ _ _ _ y4
    have hBX : Below w.heap.size w X9 := by rw [← hX]; exact bSetRow HB.out (Nat.le_refl _) _
    clear hX
    have hld := run_loadVar_row (P := Try.prog) X9 _ _ 35 _ _ _ b9 Try.underlying35 rfl hw3
    refine bodyPost_ret (by simp [results, Try.results14, Act.put, asAddr, Result.andThen, hld]; try rfl) rfl ?_
    exact HFI.out X9 b9 hBX
  · have n1 : ¬ h < 3 := by omega
    go_wp2_with (first
      | (refine wpList_built rfl 35 #[] rfl (cs := zw) (by simp only [List.map_toArray, List.map_nil]; exact hb0) ?_)
      | (refine wpList_store_row rfl 35 (.tmp 4) (.tmp 20) rfl _ zw rfl rfl _ zw y4 hw3 rfl hc1 ?_)
      | fail)
    generalize hX : World.setRow _ _ _ = X9
    have b9 : X9.heap[w.heap.size]? = some (.cells zw 35) := by rw [← hX]; exact setRow_heap _ _ _ _ _ _ y4
    have hBX : Below w.heap.size w X9 := by rw [← hX]; exact bSetRow HB.out (Nat.le_refl _) _
    clear hX
    have hld := run_loadVar_row (P := Try.prog) X9 _ _ 35 _ _ _ b9 Try.underlying35 rfl hw3
    refine bodyPost_ret (by simp [results, Try.results14, Act.put, asAddr, Result.andThen, hld]; try rfl) rfl ?_
    exact HFI.out X9 b9 hBX
  · have n1 : ¬ h < 3 := by omega
    have n2 : ¬ 20 < h := by omega
    have n3 : (300 : Int) < (n : Int) := by omega
    go_wp2_with (first
      | (refine wpList_built rfl 35 #[] rfl (cs := zw) (by simp only [List.map_toArray, List.map_nil]; exact hb0) ?_)
      | (refine wpList_store_row rfl 35 (.tmp 4) (.tmp 20) rfl _ zw rfl rfl _ zw y4 hw3 rfl hc1 ?_)
      | fail)
    generalize hX : World.setRow _ _ _ = X9
    have b9 : X9.heap[w.heap.size]? = some (.cells zw 35) := by rw [← hX]; exact setRow_heap _ _ _ _ _ _ y4
    have hBX : Below w.heap.size w X9 := by rw [← hX]; exact bSetRow HB.out (Nat.le_refl _) _
    clear hX
    have hld := run_loadVar_row (P := Try.prog) X9 _ _ 35 _ _ _ b9 Try.underlying35 rfl hw3
    refine bodyPost_ret (by simp [results, Try.results14, Act.put, asAddr, Result.andThen, hld]; try rfl) rfl ?_
    exact HFI.out X9 b9 hBX
attribute [-go_sem] Builtin.append_
set_option maxHeartbeats 16000000 in
set_option maxRecDepth 100000 in
theorem best_yes {A : Option Addr} {n c : Nat} {h : Int} {l : List LN} (w : World) (hl : LnAt w w.heap.size A n c l) (hone : ∀ x ∈ l, x.One) (h3 : 3 ≤ h) (h20 : h ≤ 20) (hn : n ≤ 300) : Calls Try.prog 14 #[.slice A n c, .int .i64 h] w (SecP w (allW l h (n + 1) 0 ⟨[], 0⟩)) := by
  have hln := hl.len
  have hwz := wyZ
  have hw3 : (Try.prog.info? 35).map (·.size) = some wyz.size := wy_size
  have hz3 : wyz.size = 3 := rfl
  obtain ⟨RW, hRW⟩ : ∃ q, allW l h (n + 1) 0 ⟨[], 0⟩ = q := ⟨_, rfl⟩
  rw [hRW]
  have HRW := Lib.hid hRW
  have HL := Lib.hid (And.intro hl (And.intro hone hln))
  clear hRW hl hone hln
  obtain ⟨zw, hzw⟩ : ∃ q, wyz = q := ⟨_, rfl⟩
  rw [hzw] at hwz hw3 hz3
  have HZW := Lib.hid hzw
  clear hzw
  have n1 : ¬ h < 3 := by omega
  have n2 : ¬ 20 < h := by omega
  have n3 : ¬ (300 : Int) < (n : Int) := by omega
  go_enter Try.func14, Try.ntmps14
  go_upto_region 1 with (first | (refine wpList_new rfl hwz rfl ?_) | fail)
  go_upto_region 4 with (first | (refine wpList_new rfl hwz rfl ?_) | fail)
  obtain ⟨y4, y5⟩ := alloc_two w (.cells zw 35) (.cells zw 35)
  have hB : Below w.heap.size w ((w.alloc (.cells zw 35)).alloc (.cells zw 35)) := ((Below.refl _ _).alloc (Nat.le_refl _) _).alloc (by simp) _
  have hzX : ((w.alloc (.cells zw 35)).alloc (.cells zw 35)).heap.size = w.heap.size + 2 := by simp
  try simp only [World.size_alloc]
  obtain ⟨X, hX⟩ : ∃ q, (w.alloc (.cells zw 35)).alloc (.cells zw 35) = q := ⟨_, rfl⟩
  rw [hX] at y4 y5 hB hzX ⊢
  clear hX
  have HX := Lib.hid (And.intro y4 (And.intro y5 (And.intro hB hzX)))
  clear y4 y5 hB hzX
  go_wp2_with fail
  go_loopw [6] (fun s6 wr => ∃ (f q : Nat) (acc : WY) (A5 : Option Addr) (c5 : Nat), f ≤ n + 1 ∧ s6 = .int .i64 f ∧ Below w.heap.size w wr ∧ wr.heap[w.heap.size]? = some (.cells zw 35) ∧ wr.heap[w.heap.size + 1]? = some (.cells #[.slice A5 acc.ends.length c5, .int .i64 acc.total, .int .i64 0] 35) ∧
    wr.ownsRow X.heap.size 3 1 (.slice A5 acc.ends.length c5) acc.ends.length (ivs acc.ends) ∧ X.heap.size ≤ wr.heap.size ∧ okAcc n f acc ∧ Hid (RW = allW l h q f acc) ∧ n + 1 ≤ f + q) (fun i _ => n + 1 - (intOf i).toNat)
  case atStart =>
    refine ⟨0, n + 1, ⟨[], 0⟩, none, 0, by omega, rfl, HX.out.2.2.1, HX.out.1, by have := HX.out.2.1; rw [← HZW.out] at this; exact this, World.ownsRow_nil _ _ _ _, Nat.le_refl _, ⟨by simp, by simp, by simp, by simp⟩, Lib.hid HRW.out.symm, by omega⟩
  case round =>
    obtain ⟨f, q, acc, A5, c5, hf, rfl, hbr, r4, r5, hown, hXr, hacc, hrw, hq⟩ := hrel
    by_cases hfn : f ≤ n
    · have hfi : (f : Int) ≤ (n : Int) := by omega
      have hej := eject_any (a := f) wr (HL.out.1.nxt hbr) (Nat.le_refl _) (by omega) hfn
      have hEr := ejP_le (l := l) (a := f) (by rw [HL.out.2.2]; exact hfn)
      rw [HL.out.2.2] at hEr
      obtain ⟨E, hE⟩ : ∃ E, ejP l f = E := ⟨_, rfl⟩
      rw [hE] at hej hEr
      have hacc2 := acc_ok (l := l) h20 hEr.1 hEr.2 hacc
      obtain ⟨q', hq'⟩ : ∃ q', q = q' + 1 := ⟨q - 1, by omega⟩
      have hrw2 : Hid (RW = allW l h q' (E + 1) ⟨acc.ends ++ (secP l f E h).ends, acc.total + (secP l f E h).total⟩) := Lib.hid (by
        rw [hrw.out, hq', allW, if_pos (by rw [HL.out.2.2]; exact hfn), hE])
      have hsl := (sec_ok (l := l) (a := f) (t := E) h20).2.2.1
      obtain ⟨SW, hSW⟩ : ∃ q, secP l f E h = q := ⟨_, rfl⟩
      rw [hSW] at hacc2 hrw2 hsl
      have hsec := fun W (hb : Below w.heap.size w W) => section_any (a := f) (t := E) W (HL.out.1.nxt hb) HL.out.2.1 h3 h20 hn hEr.1 hEr.2
      simp only [hSW] at hsec
      unfold SecP wyv at hsec
      have HR := Lib.hid (And.intro hbr (And.intro r4 (And.intro r5 (And.intro hown (And.intro hacc2 hrw2)))))
      have hal := hacc.2.2.1
      have hac1 := hacc.1
      have hac2 := hacc.2.1
      have hac3 := hacc2.1
      have hac4 := hacc2.2.1
      simp only at hac3 hac4
      clear hbr r4 r5 hown hacc2 hrw2 hrw hacc hE hSW
      go_wp2_with fail
      refine Calls.mono hej ?_
      rintro e w1 ⟨rfl, hb1⟩
      clear hej
      have hsc := hsec w1 (bNext HR.out.1 hb1)
      clear hsec
      go_upto_region 7 with (fail)
      go_wp2_with fail
      refine Calls.mono hsc ?_
      rintro e w2 ⟨A8, m8, c8, rfl, hiv, hb2⟩
      clear hsc
      obtain ⟨cw, hcw⟩ : ∃ q : Array Value, #[.slice A8 m8 c8, .int .i64 SW.total, .int .i64 0] = q := ⟨_, rfl⟩
      rw [hcw]
      have hwi : (Try.prog.info? 35).map (·.size) = some cw.size := by rw [← hcw]; exact wy_size
      have hzc : zw.size = cw.size := by rw [hz3, ← hcw]; rfl
      have hc1 : cw.all (·.oneCell') = true := by rw [← hcw]; simp [Value.oneCell']
      obtain ⟨Y, hY, y8, bY⟩ := newRow w2 zw cw 35
      go_upto_region 8 with (first
        | (refine wpList_new rfl hwz rfl ?_)
        | (refine wpList_store_row rfl 35 (.tmp 8) (.tmp 32) rfl _ cw rfl rfl _ zw (heap_alloc_new _ _) hwi hzc hc1 ?_)
        | fail)
      try rw [hY]
      clear hY
      obtain ⟨hbr, r4, r5, hown, hacc2, hrw2⟩ := HR.out
      obtain ⟨y4, y5, hBX, hzX⟩ := HX.out
      have hb1Y : Below wr.heap.size wr Y := (hb1.trans (hb2.mono hb1.size)).trans (bY.mono (by have := hb1.size; have := hb2.size; omega))
      have lg5 := (Array.getElem?_eq_some_iff.1 r5).1
      have r5Y := bBlk hb1Y lg5 r5
      have r4Y := bBlk hb1Y (Array.getElem?_eq_some_iff.1 r4).1 r4
      have hownY := own_below hown hb1Y
      have hivY := hiv.nxt bY
      have hm8 := hiv.len
      have hXY : X.heap.size ≤ Y.heap.size := by have := hb1Y.size; omega
      have hbrY := bNext hbr hb1Y
      have hg8 : w2.heap.size < Y.heap.size := (Array.getElem?_eq_some_iff.1 y8).1
      have hw2 : wr.heap.size ≤ w2.heap.size := by have := hb1.size; have := hb2.size; omega
      have hlt5 : ∀ q, (Value.slice A5 acc.ends.length c5).ownBlock = some q → q < wr.heap.size := fun q hq => (hown.lt q hq).2
      obtain ⟨g5, hg5⟩ : ∃ g, w.heap.size + 1 = g := ⟨_, rfl⟩
      obtain ⟨g8, hg8e⟩ : ∃ g, w2.heap.size = g := ⟨_, rfl⟩
      rw [hg5] at r5Y lg5
      rw [hg8e] at y8 hg8 hw2
      (try rw [hg5, hg8e])
      obtain ⟨al, hale⟩ : ∃ q, acc.ends.length = q := ⟨_, rfl⟩
      rw [hale] at r5Y hownY hal hlt5
      (try rw [hale])
      have k50 : Y.cell? ⟨g5, 0, none⟩ = some (.slice A5 al c5) := blk_cell r5Y rfl
      have k80 : Y.cell? ⟨g8, 0, none⟩ = some (.slice A8 m8 c8) := blk_cell y8 (by rw [← hcw]; rfl)
      have hg5Y : g5 < Y.heap.size := by have := hb1Y.size; omega
      have hs8 := hivY.sl
      have HQ := Lib.hid (And.intro hbrY (And.intro r4Y (And.intro r5Y (And.intro y8 (And.intro hcw (And.intro hacc2 (And.intro hrw2 (And.intro hg5 (And.intro hale hm8)))))))))
      have hm300 : m8 ≤ 1000 := by omega
      have hX5 : g5 < X.heap.size := by omega
      clear hbr r4 r5 hown hacc2 hrw2 y4 y5 hBX hzX hb1 hb2 bY hb1Y r4Y hbrY hivY hiv y8 hcw HR hg5 hg8e hale hm8 hwi hzc hc1 lg5
      go_wp2_with (first
        | (at_builtin; refine wpList_app _ rfl (.tmp 34) (.tmp 36) 33 rfl (base := X.heap.size) Try.underlying33 elemI rfl hownY rfl hs8 (one_ivs _) (by simp only [maxLen]; omega) (by omega) hXY ?_; intro A37 c37 w37 hown37 hg37 hb37 hat37
           have hg37' : World.grownBy Y w37 (Value.slice A5 al c5).ownBlock := hg37
           have z5 := bBlk hb37 hX5 r5Y
           have z8 := (hg37'.block g8 hg8 (fun e => by have := hlt5 _ e.symm; omega)).trans HQ.out.2.2.2.1
           have k51 : w37.cell? ⟨g5, 1, none⟩ = some (.int .i64 acc.total) := blk_cell z5 rfl
           have k500 : w37.cell? ⟨g5, 0, none⟩ = some (.slice A5 al c5) := blk_cell z5 rfl
           have k81 : w37.cell? ⟨g8, 1, none⟩ = some (.int .i64 SW.total) := blk_cell z8 (by rw [← HQ.out.2.2.2.2.1]; rfl)
           have f50 := blk_frozen z5 0
           have f51 := blk_frozen z5 1
           have hne58 : g8 ≠ g5 := by omega
           have g51 : IntKind.i64.wrap (acc.total + SW.total) = acc.total + SW.total := wrap_small _ (by omega) (by omega)
           have g52 : IntKind.i64.wrap ((E : Int) + 1) = (E : Int) + 1 := wrap_small _ (by omega) (by omega)
           clear k50 k80 hownY hs8 hg37 hg37')
        | fail)
      obtain ⟨hbrY, r4Y, r5Y', y8', hcw, hacc2, hrw2, hg5, hale, hm8⟩ := HQ.out
      subst hg5
      subst hale
      have hbV : Below w.heap.size w w37 := hbrY.trans (hb37.mono (by have := hXr; have := hX5; omega))
      have r437 : w37.heap[w.heap.size]? = some (.cells zw 35) := bBlk hb37 (by omega) r4Y
      have hlenN : (acc.ends ++ SW.ends).length = acc.ends.length + m8 := by rw [List.length_append, hm8]
      have HV := Lib.hid (And.intro hbV (And.intro r437 (And.intro z5 (And.intro hown37 (And.intro hacc2 (And.intro hrw2 hlenN))))))
      clear hbrY r4Y r5Y' y8' hcw hacc2 hrw2 hm8 HQ hbV r437 hown37 hlenN z8 k51 k500 k81 f50 f51 hat37 r5Y
      go_roundw
      case rel =>
        obtain ⟨hbV, r437, z5, hown37, hacc2, hrw2, hlenN⟩ := HV.out
        refine ⟨E + 1, q', ⟨acc.ends ++ SW.ends, acc.total + SW.total⟩, A37, c37, by omega, by go_num, ?_, ?_, ?_, ?_, ?_, hacc2, hrw2, by omega⟩
        · exact (hbV.setCell (p := ⟨w.heap.size + 1, 0, none⟩) (by show w.heap.size ≤ w.heap.size + 1; omega) _).setCell (p := ⟨w.heap.size + 1, 1, none⟩) (by show w.heap.size ≤ w.heap.size + 1; omega) _
        · exact blk_far (blk_far r437 _ (by show w.heap.size ≠ w.heap.size + 1; omega)) _ (by show w.heap.size ≠ w.heap.size + 1; omega)
        · have h1 := blk_set (blk_set z5 0 (.slice A37 (acc.ends.length + m8) c37)) 1 (.int .i64 (acc.total + SW.total))
          rw [hlenN]
          exact h1
        · rw [hlenN, ivs_append]
          refine ⟨hown37.1, ?_⟩
          rcases hown37.2 with h | ⟨q, cap, cur, e, h2, h3, h4⟩
          · exact .inl h
          · exact .inr ⟨q, cap, cur, e, h2, blk_far (blk_far h3 _ (by show q ≠ w.heap.size + 1; omega)) _ (by show q ≠ w.heap.size + 1; omega), h4⟩
        · simp only [World.size_setCell]
          have := hb37.size
          omega
      case measure => simp [intOf]; omega
    · have hfi : ¬ (f : Int) ≤ (n : Int) := by omega
      have hRa : Hid (RW = acc) := Lib.hid (by rw [hrw.out]; exact allW_end (by rw [HL.out.2.2]; omega) q)
      obtain ⟨cw, hcw⟩ : ∃ q : Array Value, #[.slice A5 acc.ends.length c5, .int .i64 acc.total, .int .i64 0] = q := ⟨_, rfl⟩
      rw [hcw] at r5
      have hwi : (Try.prog.info? 35).map (·.size) = some cw.size := by rw [← hcw]; exact wy_size
      have hzc : zw.size = cw.size := by rw [hz3, ← hcw]; rfl
      have hc1 : cw.all (·.oneCell') = true := by rw [← hcw]; simp [Value.oneCell']
      have HZ := Lib.hid (And.intro hbr (And.intro hown (And.intro hcw hacc)))
      clear hbr hown hcw hacc hrw
      go_wp2_with (first
        | (refine wpList_load_row rfl 35 (.tmp 5) rfl _ rfl _ cw (0, 0) _ r5 Try.underlying35 rfl hwi ?_)
        | (refine wpList_store_row rfl 35 (.tmp 4) (.tmp 47) rfl _ cw rfl rfl _ zw r4 hwi hzc hc1 ?_)
        | fail)
      generalize hXX : World.setRow _ _ _ = X9
      obtain ⟨hbr, hown, hcw, hacc⟩ := HZ.out
      have b9 : X9.heap[w.heap.size]? = some (.cells cw 35) := by rw [← hXX]; exact setRow_heap _ _ _ _ _ _ r4
      have hB9 : Below w.heap.size w X9 := by rw [← hXX]; exact bSetRow hbr (Nat.le_refl _) _
      have hsz9 : wr.heap.size ≤ X9.heap.size := by rw [← hXX]; exact (bSetRow (Below.refl w.heap.size wr) (Nat.le_refl _) _).size
      have hge := own_ge hown
      obtain ⟨_, _, e5, hc5, -⟩ := own_form hown
      cases e5
      have hiv : IvAt X9 X9.heap.size A5 acc.ends.length c5 acc.ends := by
        have hsl := Sl.of_own hown
        refine ⟨fun z hz => by have := hacc.2.2.2 z hz; omega, rfl, ⟨hsl.len, fun h0 => ?_⟩, hc5⟩
        obtain ⟨b, o, e, hlt, hr⟩ := hsl.at_ h0
        refine ⟨b, o, e, by omega, fun j v hj => ?_⟩
        have hne : b ≠ w.heap.size := by
          have h1 := hge b (by rw [e]; rfl)
          have h2 := HX.out.2.2.2
          omega
        refine Eq.trans (World.cell?_of_block (a := ⟨b, o + j, none⟩) ?_) (hr j v hj)
        rw [← hXX]
        exact setRow_other _ _ _ _ hne
      clear hXX
      have hld := run_loadVar_row (P := Try.prog) X9 _ _ 35 _ _ _ b9 Try.underlying35 rfl hwi
      refine bodyPost_ret (by simp [results, Try.results14, Act.put, asAddr, Result.andThen, hld]; try rfl) rfl ?_
      rw [hRa.out]
      exact ⟨A5, _, c5, by rw [← hcw]; rfl, hiv, hB9⟩
theorem best_any {A : Option Addr} {n c : Nat} {h : Int} {l : List LN} (w : World) (hl : LnAt w w.heap.size A n c l) (hone : ∀ x ∈ l, x.One) : Calls Try.prog 14 #[.slice A n c, .int .i64 h] w (SecP w (bestP l h)) := by
  have hln := hl.len
  unfold bestP
  by_cases hg : 3 ≤ h ∧ h ≤ 20 ∧ l.length ≤ 300
  · rw [if_pos hg, hln]
    exact best_yes w hl hone hg.1 hg.2.1 (by omega)
  · rw [if_neg hg]
    exact best_no w (by omega)
end Go.Proofs.Ytdnpcplboohdpaa
