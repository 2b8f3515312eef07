/- The walk over pages.Cost. (s8/pgcost.py writes it.) -/
import Derived.Test.YtdnpcplboohdpaaPgEj
namespace Go.Proofs.Ytdnpcplboohdpaa
set_option linter.unusedSimpArgs false
set_option linter.unusedVariables false
open Go.RowKit Go.Sort

theorem lnZ : ZeroIs Try.prog 45 #[.int .i64 0, .bool false, .bool false, .bool false, .slice none 0 0] := by unfold ZeroIs; kernel_rfl
theorem ln_info (x : LN) : (Try.prog.info? 45).map (·.size) = some x.cells.toArray.size := ln_size
theorem ln_linfo (x : LN) : (Try.prog.info? 45).map (·.size) = some x.cells.length := ln_size
/-- a line's last cell is no struct -/
def LN.One (x : LN) : Prop := x.pv.oneCell' = true
theorem one_ln {x : LN} (h : x.One) : x.cells.toArray.all (·.oneCell') = true := by
  refine all_oneCell_toArray (fun u hu => ?_)
  simp only [LN.cells, List.mem_cons, List.mem_nil_iff, or_false] at hu
  rcases hu with rfl | rfl | rfl | rfl | rfl
  · rfl
  · rfl
  · rfl
  · rfl
  · exact h
theorem ret2 {w w' : World} {a b : Value} {e : Ending} (h : e = .returned (.tuple #[a, b])) (hb : Below w.heap.size w w') : Ret w (.tuple #[a, b]) e w' := ⟨h, hb⟩
theorem pg_no {l : List LN} {a b h : Int} (hn : ¬ (0 ≤ a ∧ a < b ∧ b ≤ l.length ∧ b - a ≤ h)) : pgOk l a b h = false ∧ costN l a b h = 0 := by
  have h1 : pgOk l a b h = false := by unfold pgOk; rw [decide_eq_false hn, Bool.false_and]
  exact ⟨h1, by unfold costN; rw [h1]; rfl⟩
theorem pg_ej {l : List LN} {a b h : Int} (hn : (ejP l a.toNat : Int) < b) : pgOk l a b h = false ∧ costN l a b h = 0 := by
  have h1 : pgOk l a b h = false := by unfold pgOk; rw [decide_eq_false (by omega : ¬ b ≤ (ejP l a.toNat : Nat)), Bool.and_false]
  exact ⟨h1, by unfold costN; rw [h1]; rfl⟩
theorem pg_yes {l : List LN} {a b h : Int} (h1 : 0 ≤ a ∧ a < b ∧ b ≤ l.length ∧ b - a ≤ h) (h2 : b ≤ (ejP l a.toNat : Nat)) : pgOk l a b h = true ∧ costN l a b h = price l a b h := by
  have h3 : pgOk l a b h = true := by unfold pgOk; rw [decide_eq_true h1, decide_eq_true h2]; rfl
  exact ⟨h3, by unfold costN; rw [h3]; rfl⟩
set_option maxRecDepth 100000 in
theorem cost_no {A : Option Addr} {n c : Nat} {a b h : Int} (w : World) (hh : h ≤ 1000000) (hn : n ≤ 4611686018427387904) (hw : a < 0 ∨ (0 ≤ a ∧ b ≤ a) ∨ (0 ≤ a ∧ a < b ∧ (n : Int) < b) ∨ (0 ≤ a ∧ a < b ∧ b ≤ n ∧ h < b - a)) :
    Calls Try.prog 11 #[.slice A n c, .int .i64 a, .int .i64 b, .int .i64 h] w (Ret w (.tuple #[.int .i64 0, .bool false])) := by
  rcases hw with g1 | ⟨g1, g2⟩ | ⟨g1, g2, g3⟩ | ⟨g1, g2, g3, g4⟩
  · go_enter Try.func11, Try.ntmps11
    go_wp2_with fail
    go_returns
    exact ret2 rfl (by repeat (first | (with_reducible exact Below.refl _ _) | (with_reducible refine bDrewN ?_ _) | (with_reducible refine Below.drew ?_) | (with_reducible refine Below.alloc ?_ ?_ _) | (with_reducible refine Below.setCell ?_ ?_ _) | (with_reducible assumption) | go_size))
  · have n1 : ¬ a < 0 := by omega
    go_enter Try.func11, Try.ntmps11
    go_wp2_with fail
    go_returns
    exact ret2 rfl (by repeat (first | (with_reducible exact Below.refl _ _) | (with_reducible refine bDrewN ?_ _) | (with_reducible refine Below.drew ?_) | (with_reducible refine Below.alloc ?_ ?_ _) | (with_reducible refine Below.setCell ?_ ?_ _) | (with_reducible assumption) | go_size))
  · have n1 : ¬ a < 0 := by omega
    have n2 : ¬ b ≤ a := by omega
    go_enter Try.func11, Try.ntmps11
    go_wp2_with fail
    go_returns
    exact ret2 rfl (by repeat (first | (with_reducible exact Below.refl _ _) | (with_reducible refine bDrewN ?_ _) | (with_reducible refine Below.drew ?_) | (with_reducible refine Below.alloc ?_ ?_ _) | (with_reducible refine Below.setCell ?_ ?_ _) | (with_reducible assumption) | go_size))
  · have n1 : ¬ a < 0 := by omega
    have n2 : ¬ b ≤ a := by omega
    have n3 : ¬ (n : Int) < b := by omega
    have w1 : IntKind.i64.wrap (b - a) = b - a := wrap_small _ (by omega) (by omega)
    go_enter Try.func11, Try.ntmps11
    go_wp2_with fail
    go_returns
    exact ret2 rfl (by repeat (first | (with_reducible exact Below.refl _ _) | (with_reducible refine bDrewN ?_ _) | (with_reducible refine Below.drew ?_) | (with_reducible refine Below.alloc ?_ ?_ _) | (with_reducible refine Below.setCell ?_ ?_ _) | (with_reducible assumption) | go_size))
set_option maxHeartbeats 8000000 in
set_option maxRecDepth 100000 in
theorem cost_yes {A : Option Addr} {n c : Nat} {l : List LN} {a b : Nat} {h : Int} (w : World) (hl : LnAt w w.heap.size A n c l) (hone : ∀ x ∈ l, x.One) (hh : h ≤ 1000000) (hn : n ≤ 4611686018427387904) (h1 : a < b) (h2 : b ≤ n) (h3 : (b : Int) - a ≤ h) :
    Calls Try.prog 11 #[.slice A n c, .int .i64 (a : Int), .int .i64 (b : Int), .int .i64 h] w (Ret w (.tuple #[.int .i64 (costN l a b h), .bool (pgOk l a b h)])) := by
  have hln := hl.len
  have hej := eject_any (a := a) w hl (Nat.le_refl _) (by omega) (by omega)
  have hno := pg_ej (l := l) (a := (a : Int)) (b := (b : Int)) (h := h)
  have hyes := pg_yes (l := l) (a := (a : Int)) (b := (b : Int)) (h := h) ⟨by omega, by omega, by omega, by omega⟩
  rw [Int.toNat_natCast] at hno hyes
  obtain ⟨E, hE⟩ : ∃ E, ejP l a = E := ⟨_, rfl⟩
  rw [hE] at hej hno hyes
  have hEn : E ≤ n := by have := (ejP_le (l := l) (a := a) (by omega)).2; omega
  have n1 : ¬ (a : Int) < 0 := by omega
  have n2 : ¬ (b : Int) ≤ (a : Int) := by omega
  have n3 : ¬ (n : Int) < (b : Int) := by omega
  have w1 : IntKind.i64.wrap ((b : Int) - (a : Int)) = (b : Int) - (a : Int) := wrap_small _ (by omega) (by omega)
  have n4 : ¬ h < (b : Int) - (a : Int) := by omega
  have HL := Lib.hid (And.intro hl (And.intro hln hone))
  have HY := Lib.hid (And.intro hno hyes)
  clear hl hln hno hyes hE hone
  by_cases hEb : (E : Int) < (b : Int)
  · obtain ⟨r1, r2⟩ := HY.out.1 hEb
    rw [r1, r2]
    clear r1 r2
    go_enter Try.func11, Try.ntmps11
    go_wp2_with fail
    refine Calls.mono hej ?_
    rintro e w1 ⟨rfl, hb1⟩
    have HB := Lib.hid hb1
    clear hb1 hej
    go_wp2_with fail
    go_returns
    exact ret2 rfl HB.out
  · obtain ⟨r1, r2⟩ := HY.out.2 (by omega)
    rw [r1, r2]
    clear r1 r2 HY
    by_cases hbn : b = n
    · subst hbn
      have hp : price l a b h = 0 := by
        unfold price
        rw [Int.toNat_natCast, List.getElem?_eq_none (by rw [HL.out.2.1]; exact Nat.le_refl _)]
      rw [hp]
      clear hp
      go_enter Try.func11, Try.ntmps11
      go_wp2_with fail
      refine Calls.mono hej ?_
      rintro e w1 ⟨rfl, hb1⟩
      have HB := Lib.hid hb1
      clear hb1 hej
      go_wp2_with fail
      go_returns
      exact ret2 rfl HB.out
    · have hbn1 : b < n := by omega
      have hbn2 : (b : Int) < (n : Int) := by omega
      have hbn3 : ¬ (b : Int) = (n : Int) := by omega
      have hbn4 : ((b : Int) == (n : Int)) = false := by simpa using hbn3
      obtain ⟨q, hq⟩ : ∃ q, l[b]? = some q := ⟨_, List.getElem?_eq_getElem (by rw [HL.out.2.1]; exact hbn1)⟩
      obtain ⟨d, hd⟩ : ∃ d, b - 1 = d := ⟨_, rfl⟩
      obtain ⟨x, hx⟩ : ∃ x, l[d]? = some x := ⟨_, List.getElem?_eq_getElem (by rw [HL.out.2.1]; omega)⟩
      have hp : price l a b h = if q.ej then 0 else lack a b h + (if x.first && !x.last then 150 else 0) + (if q.last && !q.first then 150 else 0) + (if decide (x.kind = 2) then 500 else 0) := by
        unfold price
        rw [Int.toNat_natCast, hq, hd, hx]
      obtain ⟨R, hR⟩ : ∃ R, price l a b h = R := ⟨_, rfl⟩
      rw [hR] at hp ⊢
      have HR := Lib.hid hp
      clear hp hR
      have hqo := HL.out.2.2 q (List.mem_of_getElem? hq)
      have hxo := HL.out.2.2 x (List.mem_of_getElem? hx)
      obtain ⟨o', o, rfl, hbB, hqr⟩ := HL.out.1.entry hq
      obtain ⟨o1, o2, e1, -, hxr⟩ := HL.out.1.entry hx
      simp only [Option.some.injEq, Addr.mk.injEq, and_true] at e1
      obtain ⟨rfl, rfl⟩ := e1
      go_enter Try.func11, Try.ntmps11
      go_wp2_with fail
      refine Calls.mono hej ?_
      rintro e w1 ⟨rfl, hb1⟩
      have hqr1 := bRange hb1 hbB hqr
      have hxr1 := bRange hb1 hbB hxr
      obtain ⟨c0, -, -, -, -⟩ := ln_cells hqr1
      have hob : o' < w1.heap.size := by have := hb1.size; omega
      have HB := Lib.hid (And.intro hb1 (And.intro hqr1 (And.intro hxr1 (And.intro hq hx))))
      clear hb1 hej hqr hxr hqr1 hxr1 hq hx
      by_cases hqe : q.kind = 4
      · have hqj : q.ej = true := decide_eq_true hqe
        rw [hqe] at c0
        have HJ := Lib.hid hqj
        clear hqj hqe
        go_wp2_with fail
        go_returns
        exact ret2 (by rw [HR.out, HJ.out, if_pos rfl]; rfl) HB.out.1
      · have hqj : q.ej = false := decide_eq_false hqe
        have hqe4 : (q.kind == 4) = false := by simpa using hqe
        have hR := HR.out
        rw [hqj, if_neg Bool.false_ne_true] at hR
        clear hqj HR
        have v1 : IntKind.i64.wrap (h - ((b : Int) - (a : Int))) = h - ((b : Int) - (a : Int)) := wrap_small _ (by omega) (by omega)
        have hfew : 0 ≤ h - ((b : Int) - (a : Int)) ∧ h - ((b : Int) - (a : Int)) ≤ 1000000 := by omega
        have hlk : lack a b h = 10 * (h - ((b : Int) - (a : Int))) * (h - ((b : Int) - (a : Int))) := rfl
        obtain ⟨t, ht⟩ : ∃ t, h - ((b : Int) - (a : Int)) = t := ⟨_, rfl⟩
        replace v1 := v1.trans ht
        rw [ht] at hfew hlk
        have hsq : 0 ≤ t * t ∧ t * t ≤ 1000000000000 := ⟨Int.mul_nonneg hfew.1 hfew.1, by have := Int.mul_le_mul hfew.2 hfew.2 hfew.1 (by omega); simpa using this⟩
        have hm : 10 * t * t = 10 * (t * t) := Int.mul_assoc _ _ _
        have v2 : IntKind.i64.wrap (10 * t) = 10 * t := wrap_small _ (by omega) (by omega)
        have v3 : IntKind.i64.wrap (10 * t * t) = 10 * t * t := wrap_small _ (by omega) (by omega)
        rw [hlk] at hR
        obtain ⟨L, hL⟩ : ∃ L, 10 * t * t = L := ⟨_, rfl⟩
        replace v3 := v3.trans hL
        have hLb0 : 0 ≤ L ∧ L ≤ 10000000000000 := by omega
        rw [hL] at hR
        have HR := Lib.hid hR
        clear hR
        have hLb := hLb0
        clear hlk hsq hm hLb0
        have HT := Lib.hid (And.intro ht hL)
        clear ht hL
        have g0 : IntKind.i64.wrap ((b : Int) - 1) = (d : Int) := by rw [wrap_small _ (by omega) (by omega)]; omega
        have hdn : d < n := by omega
        have hdn' : (d : Int) < (n : Int) := by omega
        go_upto_region 7 with (fail)
        obtain ⟨hb1, hqr, hxr, -, -⟩ := HB.out
        have ix := ln_linfo x
        have iq := ln_linfo q
        have jx := ln_info x
        have jq := ln_info q
        have ox := one_ln hxo
        have oq := one_ln hqo
        have hzE := lnZ
        obtain ⟨z, hz⟩ : ∃ z, (#[.int .i64 0, .bool false, .bool false, .bool false, .slice none 0 0] : Array Value) = z := ⟨_, rfl⟩
        have hz5 : z.size = x.cells.toArray.size := by rw [← hz]; rfl
        have hz5' : z.size = q.cells.toArray.size := by rw [← hz]; rfl
        rw [hz] at hzE
        clear hz
        go_cut [12, 13] from 62 to 70 (fun s12 s13 wx => ∃ e1 e2 : Nat, s12 = .pointer (some ⟨e1, 0, none⟩) ∧ s13 = .pointer (some ⟨e2, 0, none⟩) ∧ wx.heap[e1]? = some (.cells x.cells.toArray 45) ∧ wx.heap[e2]? = some (.cells q.cells.toArray 45) ∧ Below w1.heap.size w1 wx)
        case first =>
          let S : World → Prop := fun w' => Below w1.heap.size w1 w'
          have hS0 : S w1.drew := (Below.refl _ _).drew
          have rx : ∀ w', S w' → w'.rangeAt o' (o + d * 5) x.cells := fun w' h => bRange h hob hxr
          have rq : ∀ w', S w' → w'.rangeAt o' (o + b * 5) q.cells := fun w' h => bRange h hob hqr
          clear hxr hqr c0
          refine wp_region_held (S := S) (by kernel_rfl) ?_
          change wpAnyH _ _ _ _ S _ _ _ w1.drew
          refine wpAnyH_take (i := 0) (oi := ?oi_1) (v := ?v_1) ?ho_1 ?h1_1 ?h2_1 ?h3_1 ?hq_1 (Or.inl ⟨?hw_1, ?hy_1⟩) ?hs_1 ?rest_1; (case h2_1 => kernel_rfl); (case h3_1 => kernel_rfl); (case ho_1 => (simp only [List.getElem?_toArray, List.getElem?_cons_zero, List.getElem?_cons_succ]; rfl)); (case h1_1 => kernel_rfl); (case hq_1 => exact fun _ _ _ h => h); (case hw_1 => rfl); (case hy_1 => (intro w' hSw; (try simp only [S] at hSw); go_simp; (try with_reducible rfl))); (case hs_1 => assumption); (try simp only [Act.put, List.setIfInBounds_toArray, List.set_cons_zero, List.set_cons_succ])
          refine wpAnyH_take (i := 1) (oi := ?oi_2) (v := ?v_2) ?ho_2 ?h1_2 ?h2_2 ?h3_2 ?hq_2 (Or.inl ⟨?hw_2, ?hy_2⟩) ?hs_2 ?rest_2; (case h2_2 => kernel_rfl); (case h3_2 => kernel_rfl); (case ho_2 => (simp only [List.getElem?_toArray, List.getElem?_cons_zero, List.getElem?_cons_succ]; rfl)); (case h1_2 => kernel_rfl); (case hq_2 => exact fun _ _ _ h => h); (case hw_2 => rfl); (case hy_2 => (intro w' hSw; (try simp only [S] at hSw); go_simp; (try with_reducible rfl))); (case hs_2 => assumption); (try simp only [Act.put, List.setIfInBounds_toArray, List.set_cons_zero, List.set_cons_succ])
          refine wpAnyH_take (i := 2) (oi := ?oi_3) (v := ?v_3) ?ho_3 ?h1_3 ?h2_3 ?h3_3 ?hq_3 (Or.inl ⟨?hw_3, ?hy_3⟩) ?hs_3 ?rest_3; (case h2_3 => kernel_rfl); (case h3_3 => kernel_rfl); (case ho_3 => (simp only [List.getElem?_toArray, List.getElem?_cons_zero, List.getElem?_cons_succ]; rfl)); (case h1_3 => kernel_rfl); (case hq_3 => exact fun _ _ _ h => h); (case hw_3 => rfl); (case hy_3 => (intro w' hSw; (try simp only [S] at hSw); go_simp; (try with_reducible rfl))); (case hs_3 => assumption); (try simp only [Act.put, List.setIfInBounds_toArray, List.set_cons_zero, List.set_cons_succ])
          refine wpAnyH_take (i := 3) (oi := ?oi_4) (v := ?v_4) ?ho_4 ?h1_4 ?h2_4 ?h3_4 ?hq_4 (Or.inl ⟨?hw_4, ?hy_4⟩) ?hs_4 ?rest_4; (case h2_4 => kernel_rfl); (case h3_4 => kernel_rfl); (case ho_4 => (simp only [List.getElem?_toArray, List.getElem?_cons_zero, List.getElem?_cons_succ]; rfl)); (case h1_4 => kernel_rfl); (case hq_4 => exact fun _ _ _ h => h); (case hw_4 => rfl); (case hy_4 => (intro w' hSw; (try simp only [S] at hSw); go_simp; (try with_reducible rfl))); (case hs_4 => assumption); (try simp only [Act.put, List.setIfInBounds_toArray, List.set_cons_zero, List.set_cons_succ])
          refine wpAnyH_take (i := 4) (oi := ?oi_8) (v := ?v_8) ?ho_8 ?h1_8 ?h2_8 ?h3_8 ?hq_8 (Or.inl ⟨?hw_8, ?hy_8⟩) ?hs_8 ?rest_8; (case h2_8 => kernel_rfl); (case h3_8 => kernel_rfl); (case ho_8 => (simp only [List.getElem?_toArray, List.getElem?_cons_zero, List.getElem?_cons_succ]; rfl)); (case h1_8 => kernel_rfl); (case hq_8 => exact fun _ _ _ h => h); (case hw_8 => rfl); (case hy_8 => (intro w' hSw; refine exec_load_row (x := .tmp 65) ?_ ?_ (rx w' hSw) Try.underlying45 ?_ ix <;> rfl)); (case hs_8 => assumption); (try simp only [Act.put, List.setIfInBounds_toArray, List.set_cons_zero, List.set_cons_succ])
          refine wpAnyH_take (i := 5) (oi := ?oi_5) (v := ?v_5) ?ho_5 ?h1_5 ?h2_5 ?h3_5 ?hq_5 (Or.inl ⟨?hw_5, ?hy_5⟩) ?hs_5 ?rest_5; (case h2_5 => kernel_rfl); (case h3_5 => kernel_rfl); (case ho_5 => (simp only [List.getElem?_toArray, List.getElem?_cons_zero, List.getElem?_cons_succ]; rfl)); (case h1_5 => kernel_rfl); (case hq_5 => exact fun _ _ _ h => h); (case hw_5 => rfl); (case hy_5 => (intro w' hSw; (try simp only [S] at hSw); go_simp; (try with_reducible rfl))); (case hs_5 => assumption); (try simp only [Act.put, List.setIfInBounds_toArray, List.set_cons_zero, List.set_cons_succ])
          refine wpAnyH_take (i := 6) (oi := ?oi_6) (v := ?v_6) ?ho_6 ?h1_6 ?h2_6 ?h3_6 ?hq_6 (Or.inl ⟨?hw_6, ?hy_6⟩) ?hs_6 ?rest_6; (case h2_6 => kernel_rfl); (case h3_6 => kernel_rfl); (case ho_6 => (simp only [List.getElem?_toArray, List.getElem?_cons_zero, List.getElem?_cons_succ]; rfl)); (case h1_6 => kernel_rfl); (case hq_6 => exact fun _ _ _ h => h); (case hw_6 => rfl); (case hy_6 => (intro w' hSw; (try simp only [S] at hSw); go_simp; (try with_reducible rfl))); (case hs_6 => assumption); (try simp only [Act.put, List.setIfInBounds_toArray, List.set_cons_zero, List.set_cons_succ])
          refine wpAnyH_take (i := 7) (oi := ?oi_7) (v := ?v_7) ?ho_7 ?h1_7 ?h2_7 ?h3_7 ?hq_7 (Or.inl ⟨?hw_7, ?hy_7⟩) ?hs_7 ?rest_7; (case h2_7 => kernel_rfl); (case h3_7 => kernel_rfl); (case ho_7 => (simp only [List.getElem?_toArray, List.getElem?_cons_zero, List.getElem?_cons_succ]; rfl)); (case h1_7 => kernel_rfl); (case hq_7 => exact fun _ _ _ h => h); (case hw_7 => rfl); (case hy_7 => (intro w' hSw; (try simp only [S] at hSw); go_simp; (try with_reducible rfl))); (case hs_7 => assumption); (try simp only [Act.put, List.setIfInBounds_toArray, List.set_cons_zero, List.set_cons_succ])
          refine wpAnyH_take (i := 8) (oi := ?oi_9) (v := ?v_9) ?ho_9 ?h1_9 ?h2_9 ?h3_9 ?hq_9 (Or.inl ⟨?hw_9, ?hy_9⟩) ?hs_9 ?rest_9; (case h2_9 => kernel_rfl); (case h3_9 => kernel_rfl); (case ho_9 => (simp only [List.getElem?_toArray, List.getElem?_cons_zero, List.getElem?_cons_succ]; rfl)); (case h1_9 => kernel_rfl); (case hq_9 => exact fun _ _ _ h => h); (case hw_9 => rfl); (case hy_9 => (intro w' hSw; refine exec_load_row (x := .tmp 69) ?_ ?_ (rq w' hSw) Try.underlying45 ?_ iq <;> rfl)); (case hs_9 => assumption); (try simp only [Act.put, List.setIfInBounds_toArray, List.set_cons_zero, List.set_cons_succ])
          refine wpAnyH_ready (rs := [9, 10]) (by kernel_rfl) (by simp) (AllReadyH.cons (o := ?oo9_10) ?hoo9_10 (fun K hK => ?step9) (AllReadyH.cons (o := ?oo10_10) ?hoo10_10 (fun K hK => ?step10) AllReadyH.nil)); (case hoo9_10 => (simp only [List.getElem?_toArray, List.getElem?_cons_zero, List.getElem?_cons_succ]; rfl)); (case hoo10_10 => (simp only [List.getElem?_toArray, List.getElem?_cons_zero, List.getElem?_cons_succ]; rfl))
          case step9 =>
            refine step_new rfl hzE rfl ?_
            have hS1 : S (w1.drew.alloc (.cells z 45)) := (Below.refl _ w1).drew.alloc (Nat.le_refl _) _
            have b1 : (w1.drew.alloc (.cells z 45)).heap[w1.heap.size]? = some (.cells z 45) := heap_alloc_new w1.drew _
            refine hK.out _ _ hS1 (fun _ => ?_)
            clear hK K
            (try simp only [Act.put, List.setIfInBounds_toArray, List.set_cons_zero, List.set_cons_succ])
            obtain ⟨U, hU⟩ : ∃ q, w1.drew.alloc (.cells z 45) = q := ⟨_, rfl⟩
            rw [hU] at hS1 b1 ⊢
            clear hU
            refine wpAnyH_ready (rs := [10]) (by kernel_rfl) (by simp) (AllReadyH.cons (o := ?oo10_11) ?hoo10_11 (fun K hK => ?steponly11) AllReadyH.nil); (case hoo10_11 => (simp only [List.getElem?_toArray, List.getElem?_cons_zero, List.getElem?_cons_succ]; rfl))
            refine step_new rfl hzE rfl ?_
            have hzU := (show Below w1.heap.size w1 U from hS1).size
            have hbA : Below U.heap.size U (U.alloc (.cells z 45)) := (Below.refl _ _).alloc (Nat.le_refl _) _
            have hS2 : S (U.alloc (.cells z 45)) := (show Below w1.heap.size w1 U from hS1).trans (hbA.mono hzU)
            have l1 := (Array.getElem?_eq_some_iff.1 b1).1
            have c1 := bBlk hbA l1 b1
            have c2 := heap_alloc_new U (.cells z 45)
            refine hK.out _ _ hS2 (fun _ => ?_)
            clear hK K
            (try simp only [Act.put, List.setIfInBounds_toArray, List.set_cons_zero, List.set_cons_succ])
            obtain ⟨UA, hUA⟩ : ∃ q, U.alloc (.cells z 45) = q := ⟨_, rfl⟩
            rw [hUA] at hS2 c1 c2 ⊢
            clear hUA hbA
            have hne : w1.heap.size ≠ U.heap.size := by omega
            refine wpAnyH_ready (rs := [11]) (by kernel_rfl) (by simp) (AllReadyH.cons (o := ?oo11_12) ?hoo11_12 (fun K hK => ?steponly12) AllReadyH.nil); (case hoo11_12 => (simp only [List.getElem?_toArray, List.getElem?_cons_zero, List.getElem?_cons_succ]; rfl))
            refine step_row rfl 45 (.tmp 12) (.tmp 66) rfl w1.heap.size x.cells.toArray rfl rfl _ z c1 jx hz5 ox ?_
            have hS3 : S (UA.setRow w1.heap.size x.cells.toArray) := bSetRow hS2 (by omega) _
            have d1 : (UA.setRow w1.heap.size x.cells.toArray).heap[w1.heap.size]? = some (.cells x.cells.toArray 45) := setRow_heap _ _ _ _ _ _ c1
            have d2 : (UA.setRow w1.heap.size x.cells.toArray).heap[U.heap.size]? = some (.cells z 45) := (setRow_other _ _ _ _ (by omega)).trans c2
            refine hK.out _ _ hS3 (fun _ => ?_)
            clear hK K
            (try simp only [Act.put, List.setIfInBounds_toArray, List.set_cons_zero, List.set_cons_succ])
            obtain ⟨UB, hUB⟩ : ∃ q, UA.setRow w1.heap.size x.cells.toArray = q := ⟨_, rfl⟩
            rw [hUB] at hS3 d1 d2 ⊢
            clear hUB
            refine wpAnyH_ready (rs := [12]) (by kernel_rfl) (by simp) (AllReadyH.cons (o := ?oo12_13) ?hoo12_13 (fun K hK => ?steponly13) AllReadyH.nil); (case hoo12_13 => (simp only [List.getElem?_toArray, List.getElem?_cons_zero, List.getElem?_cons_succ]; rfl))
            refine step_row rfl 45 (.tmp 13) (.tmp 70) rfl U.heap.size q.cells.toArray rfl rfl _ z d2 jq hz5' oq ?_
            have hS4 : S (UB.setRow U.heap.size q.cells.toArray) := bSetRow hS3 (by omega) _
            have g1 : (UB.setRow U.heap.size q.cells.toArray).heap[w1.heap.size]? = some (.cells x.cells.toArray 45) := (setRow_other _ _ _ _ (by omega)).trans d1
            have g2 : (UB.setRow U.heap.size q.cells.toArray).heap[U.heap.size]? = some (.cells q.cells.toArray 45) := setRow_heap _ _ _ _ _ _ d2
            refine hK.out _ _ hS4 (fun _ => ?_)
            clear hK K
            (try simp only [Act.put, List.setIfInBounds_toArray, List.set_cons_zero, List.set_cons_succ])
            refine wpAnyH_done (by kernel_rfl) ?_ _
            have HE := Lib.hid (And.intro g1 (And.intro g2 (show Below w1.heap.size w1 _ from hS4)))
            clear hS0 hS1 hS2 hS3 hS4 rx rq b1 c1 c2 d1 d2 g1 g2 l1
            go_wp2_with fail
            go_meet
            exact ⟨_, _, rfl, rfl, HE.out.1, HE.out.2.1, HE.out.2.2⟩
          case step10 =>
            refine step_new rfl hzE rfl ?_
            have hS1 : S (w1.drew.alloc (.cells z 45)) := (Below.refl _ w1).drew.alloc (Nat.le_refl _) _
            have b1 : (w1.drew.alloc (.cells z 45)).heap[w1.heap.size]? = some (.cells z 45) := heap_alloc_new w1.drew _
            refine hK.out _ _ hS1 (fun _ => ?_)
            clear hK K
            (try simp only [Act.put, List.setIfInBounds_toArray, List.set_cons_zero, List.set_cons_succ])
            obtain ⟨U, hU⟩ : ∃ q, w1.drew.alloc (.cells z 45) = q := ⟨_, rfl⟩
            rw [hU] at hS1 b1 ⊢
            clear hU
            refine wpAnyH_ready (rs := [9]) (by kernel_rfl) (by simp) (AllReadyH.cons (o := ?oo9_14) ?hoo9_14 (fun K hK => ?steponly14) AllReadyH.nil); (case hoo9_14 => (simp only [List.getElem?_toArray, List.getElem?_cons_zero, List.getElem?_cons_succ]; rfl))
            refine step_new rfl hzE rfl ?_
            have hzU := (show Below w1.heap.size w1 U from hS1).size
            have hbA : Below U.heap.size U (U.alloc (.cells z 45)) := (Below.refl _ _).alloc (Nat.le_refl _) _
            have hS2 : S (U.alloc (.cells z 45)) := (show Below w1.heap.size w1 U from hS1).trans (hbA.mono hzU)
            have l1 := (Array.getElem?_eq_some_iff.1 b1).1
            have c1 := bBlk hbA l1 b1
            have c2 := heap_alloc_new U (.cells z 45)
            refine hK.out _ _ hS2 (fun _ => ?_)
            clear hK K
            (try simp only [Act.put, List.setIfInBounds_toArray, List.set_cons_zero, List.set_cons_succ])
            obtain ⟨UA, hUA⟩ : ∃ q, U.alloc (.cells z 45) = q := ⟨_, rfl⟩
            rw [hUA] at hS2 c1 c2 ⊢
            clear hUA hbA
            have hne : w1.heap.size ≠ U.heap.size := by omega
            refine wpAnyH_ready (rs := [11]) (by kernel_rfl) (by simp) (AllReadyH.cons (o := ?oo11_15) ?hoo11_15 (fun K hK => ?steponly15) AllReadyH.nil); (case hoo11_15 => (simp only [List.getElem?_toArray, List.getElem?_cons_zero, List.getElem?_cons_succ]; rfl))
            refine step_row rfl 45 (.tmp 12) (.tmp 66) rfl U.heap.size x.cells.toArray rfl rfl _ z c2 jx hz5 ox ?_
            have hS3 : S (UA.setRow U.heap.size x.cells.toArray) := bSetRow hS2 (by omega) _
            have d1 : (UA.setRow U.heap.size x.cells.toArray).heap[U.heap.size]? = some (.cells x.cells.toArray 45) := setRow_heap _ _ _ _ _ _ c2
            have d2 : (UA.setRow U.heap.size x.cells.toArray).heap[w1.heap.size]? = some (.cells z 45) := (setRow_other _ _ _ _ (by omega)).trans c1
            refine hK.out _ _ hS3 (fun _ => ?_)
            clear hK K
            (try simp only [Act.put, List.setIfInBounds_toArray, List.set_cons_zero, List.set_cons_succ])
            obtain ⟨UB, hUB⟩ : ∃ q, UA.setRow U.heap.size x.cells.toArray = q := ⟨_, rfl⟩
            rw [hUB] at hS3 d1 d2 ⊢
            clear hUB
            refine wpAnyH_ready (rs := [12]) (by kernel_rfl) (by simp) (AllReadyH.cons (o := ?oo12_16) ?hoo12_16 (fun K hK => ?steponly16) AllReadyH.nil); (case hoo12_16 => (simp only [List.getElem?_toArray, List.getElem?_cons_zero, List.getElem?_cons_succ]; rfl))
            refine step_row rfl 45 (.tmp 13) (.tmp 70) rfl w1.heap.size q.cells.toArray rfl rfl _ z d2 jq hz5' oq ?_
            have hS4 : S (UB.setRow w1.heap.size q.cells.toArray) := bSetRow hS3 (by omega) _
            have g1 : (UB.setRow w1.heap.size q.cells.toArray).heap[U.heap.size]? = some (.cells x.cells.toArray 45) := (setRow_other _ _ _ _ (by omega)).trans d1
            have g2 : (UB.setRow w1.heap.size q.cells.toArray).heap[w1.heap.size]? = some (.cells q.cells.toArray 45) := setRow_heap _ _ _ _ _ _ d2
            refine hK.out _ _ hS4 (fun _ => ?_)
            clear hK K
            (try simp only [Act.put, List.setIfInBounds_toArray, List.set_cons_zero, List.set_cons_succ])
            refine wpAnyH_done (by kernel_rfl) ?_ _
            have HE := Lib.hid (And.intro g1 (And.intro g2 (show Below w1.heap.size w1 _ from hS4)))
            clear hS0 hS1 hS2 hS3 hS4 rx rq b1 c1 c2 d1 d2 g1 g2 l1
            go_wp2_with fail
            go_meet
            exact ⟨_, _, rfl, rfl, HE.out.1, HE.out.2.1, HE.out.2.2⟩
        case rest =>
          obtain ⟨e1, e2, rfl, rfl, he1, he2, hbx⟩ := hcut
          rename World => wc
          obtain ⟨x0, x1, x2, -, -⟩ := ln_cells (range_blk he1)
          obtain ⟨q0, q1, q2, -, -⟩ := ln_cells (range_blk he2)
          rw [Nat.zero_add] at x1 x2 q1 q2
          have le1 := (Array.getElem?_eq_some_iff.1 he1).1
          have le2 := (Array.getElem?_eq_some_iff.1 he2).1
          have HB2 := Lib.hid (bNext HB.out.1 hbx)
          have y1 : IntKind.i64.wrap (L + 150) = L + 150 := wrap_small _ (by omega) (by omega)
          have y2 : IntKind.i64.wrap (L + 150 + 150) = L + 150 + 150 := wrap_small _ (by omega) (by omega)
          have y3 : IntKind.i64.wrap (L + 500) = L + 500 := wrap_small _ (by omega) (by omega)
          have y4 : IntKind.i64.wrap (L + 150 + 500) = L + 150 + 500 := wrap_small _ (by omega) (by omega)
          have y5 : IntKind.i64.wrap (L + 150 + 150 + 500) = L + 150 + 150 + 500 := wrap_small _ (by omega) (by omega)
          clear he1 he2 hbx hqr hxr c0 ix iq jx jq ox oq hz5 hz5' hzE HB hqo hxo
          obtain ⟨f1, hf1⟩ : ∃ f, x.first = f := ⟨_, rfl⟩
          obtain ⟨f2, hf2⟩ : ∃ f, x.last = f := ⟨_, rfl⟩
          obtain ⟨f3, hf3⟩ : ∃ f, q.last = f := ⟨_, rfl⟩
          obtain ⟨f4, hf4⟩ : ∃ f, q.first = f := ⟨_, rfl⟩
          obtain ⟨K, hK⟩ : ∃ K, x.kind = K := ⟨_, rfl⟩
          have hR := HR.out
          rw [hf1, hf2, hf3, hf4, hK] at hR
          rw [hK] at x0
          rw [hf1] at x1
          rw [hf2] at x2
          rw [hf4] at q1
          rw [hf3] at q2
          have HR2 := Lib.hid hR
          clear hR HR hf1 hf2 hf3 hf4 hK
          by_cases hk2 : K = 2
          · subst hk2
            cases f1 <;> cases f2 <;> cases f3 <;> cases f4
            all_goals
              go_wp2_with fail
              go_returns
              exact ret2 (by rw [HR2.out]; simp) HB2.out
          · have HK2 := Lib.hid hk2
            cases f1 <;> cases f2 <;> cases f3 <;> cases f4
            all_goals
              go_wp2_with fail
              go_returns
              exact ret2 (by rw [HR2.out, decide_eq_false HK2.out]; simp) HB2.out
theorem cost_any {A : Option Addr} {n c : Nat} {l : List LN} {a b h : Int} (w : World) (hl : LnAt w w.heap.size A n c l) (hone : ∀ x ∈ l, x.One) (hh : h ≤ 1000000) (hn : n ≤ 4611686018427387904) :
    Calls Try.prog 11 #[.slice A n c, .int .i64 a, .int .i64 b, .int .i64 h] w (Ret w (.tuple #[.int .i64 (costN l a b h), .bool (pgOk l a b h)])) := by
  have hln := hl.len
  by_cases hy : 0 ≤ a ∧ a < b ∧ b ≤ n ∧ b - a ≤ h
  · obtain ⟨a', rfl⟩ : ∃ a' : Nat, a = (a' : Int) := ⟨a.toNat, by omega⟩
    obtain ⟨b', rfl⟩ : ∃ b' : Nat, b = (b' : Int) := ⟨b.toNat, by omega⟩
    exact cost_yes w hl hone hh hn (by omega) (by omega) (by omega)
  · obtain ⟨r1, r2⟩ := pg_no (l := l) (a := a) (b := b) (h := h) (by rw [hln]; exact hy)
    rw [r1, r2]
    exact cost_no w hh hn (by omega)
end Go.Proofs.Ytdnpcplboohdpaa
