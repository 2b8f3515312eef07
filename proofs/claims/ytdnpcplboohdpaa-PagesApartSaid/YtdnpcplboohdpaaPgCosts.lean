/- The walk over PagesCosts. (s8/pgcosts.py writes it.) -/
import Derived.Test.YtdnpcplboohdpaaPgWakes
namespace Go.Proofs.Ytdnpcplboohdpaa
set_option linter.unusedSimpArgs false
set_option linter.unusedVariables false
open Go.RowKit Go.ChangeShapes Go.WideShapes Go.Sort

def lz : Value := .slice none 0 0
def ln0 : LN := ⟨1, false, false, false, lz⟩
/-- k lines, the last one with its marks -/
def pgL (j : Nat) (kd : Int) (f : Bool) : List LN := List.replicate j ln0 ++ [⟨kd, f, false, false, lz⟩]
def pt (b : Bool) (n : Int) : Int := if b then n else 0
theorem pgL_len (j : Nat) (kd : Int) (f : Bool) : (pgL j kd f).length = j + 1 := by simp [pgL]
theorem pgL_one {j : Nat} {kd : Int} {f : Bool} : ∀ x ∈ pgL j kd f, x.One := by
  intro x hx
  simp only [pgL, List.mem_append, List.mem_replicate, List.mem_singleton] at hx
  rcases hx with ⟨-, rfl⟩ | rfl <;> rfl
theorem pgL_kind {j : Nat} {kd : Int} {f : Bool} (hk : kd = 1 ∨ kd = 2) : ∀ x ∈ pgL j kd f, x.kind = 1 ∨ x.kind = 2 := by
  intro x hx
  simp only [pgL, List.mem_append, List.mem_replicate, List.mem_singleton] at hx
  rcases hx with ⟨-, rfl⟩ | rfl
  · exact .inl rfl
  · exact hk
theorem ej_past {l m : List LN} (h : ∀ x ∈ l, x.kind = 1 ∨ x.kind = 2) : l.length ≤ ejP (l ++ m) 0 := by
  rcases Nat.lt_or_ge (ejP (l ++ m) 0) l.length with hlt | hge
  · obtain ⟨x, hx, hej⟩ := ejP_at (l := l ++ m) (a := 0) (by rw [List.length_append]; omega)
    rw [List.getElem?_append_left hlt] at hx
    have := h x (List.mem_of_getElem? hx)
    unfold LN.ej at hej
    have h4 : x.kind = 4 := by simpa using hej
    omega
  · exact hge
theorem pgl_yes {j : Nat} {kd h : Int} {f : Bool} {m : List LN} (hk : kd = 1 ∨ kd = 2) (hj : (j : Int) + 1 ≤ h) : pgOk (pgL j kd f ++ m) 0 ((j + 1 : Nat) : Int) h = true := by
  have h1 := ej_past (m := m) (pgL_kind (j := j) (f := f) hk)
  rw [pgL_len] at h1
  unfold pgOk
  rw [Bool.and_eq_true]
  refine ⟨decide_eq_true ⟨by omega, by omega, by rw [List.length_append, pgL_len]; omega, by omega⟩, decide_eq_true ?_⟩
  show ((j + 1 : Nat) : Int) ≤ ((ejP (pgL j kd f ++ m) 0 : Nat) : Int)
  omega
theorem cost_beh {j : Nat} {kd h : Int} {f la : Bool} {d : Nat} (hk : kd = 1 ∨ kd = 2) (hj : (j : Int) + 1 + d = h) :
    costN (pgL j kd f ++ [⟨1, false, la, false, lz⟩]) 0 ((j + 1 : Nat) : Int) h = 10 * (d : Int) * d + pt f 150 + pt (decide (kd = 2)) 500 + pt la 150 := by
  unfold costN
  rw [if_pos (pgl_yes hk (by omega))]
  unfold price
  have e1 : (pgL j kd f ++ [(⟨1, false, la, false, lz⟩ : LN)])[(((j + 1 : Nat) : Int)).toNat]? = some ⟨1, false, la, false, lz⟩ := by
    rw [show (((j + 1 : Nat) : Int)).toNat = j + 1 from rfl, List.getElem?_append_right (by rw [pgL_len]; exact Nat.le_refl _), pgL_len, Nat.sub_self]; rfl
  have e2 : (pgL j kd f ++ [(⟨1, false, la, false, lz⟩ : LN)])[(((j + 1 : Nat) : Int)).toNat - 1]? = some ⟨kd, f, false, false, lz⟩ := by
    rw [show (((j + 1 : Nat) : Int)).toNat - 1 = j from rfl, List.getElem?_append_left (by rw [pgL_len]; omega), pgL, List.getElem?_append_right (by simp)]; simp
  rw [e1, e2]
  have e3 : (⟨1, false, la, false, lz⟩ : LN).ej = false := rfl
  simp only [e3, Bool.false_eq_true, if_false]
  unfold lack pt
  have e4 : h - (((j + 1 : Nat) : Int) - 0) = (d : Int) := by omega
  rw [e4]
  simp
  rcases hk with rfl | rfl <;> cases f <;> cases la <;> simp <;> omega
theorem cost_end {j : Nat} {kd h : Int} {f : Bool} {m : List LN} (hm : m = [] ∨ m = [⟨4, false, false, false, lz⟩]) : costN (pgL j kd f ++ m) 0 ((j + 1 : Nat) : Int) h = 0 := by
  unfold costN
  split
  · unfold price
    have e0 : (((j + 1 : Nat) : Int)).toNat = (pgL j kd f).length := by rw [pgL_len]; rfl
    rw [e0, List.getElem?_append_right (Nat.le_refl _), Nat.sub_self]
    rcases hm with rfl | rfl
    · rfl
    · simp only [List.getElem?_cons_zero]
      split
      · rename_i h1 h2
        injection h1 with h1
        subst h1
        rfl
      · rfl
  · rfl
theorem cost_not {j : Nat} {kd h : Int} {f : Bool} {m : List LN} (hh : h = j) : pgOk (pgL j kd f ++ m) 0 ((j + 1 : Nat) : Int) h = false := by
  unfold pgOk
  rw [decide_eq_false (by omega)]
  rfl
theorem lns_append (a b : List LN) : lns (a ++ b) = lns a ++ lns b := by simp [lns]
theorem own_last {w : World} {base q n c : Nat} {t : TypeId} {l : List LN} {x : LN} {j : Nat} (h : w.ownsRow base t 5 (.slice (some ⟨q, 0, none⟩) n c) n (lns (l ++ [x]))) (hl : l.length = j) (i : Nat) {v : Value} (hv : x.cells[i]? = some v) : w.cell? ⟨q, j * 5 + i, none⟩ = some v := by
  have := h.cells (g := q) rfl (j * 5 + i) v (by
    rw [lns_append, List.getElem?_append_right (by rw [lns_len, hl]; omega), lns_len, hl, Nat.add_sub_cancel_left]
    simpa [lns] using hv)
  rw [addr_add, Nat.zero_add] at this
  exact this
theorem lns_rep (j : Nat) : lns (List.replicate (j + 1) ln0) = lns (List.replicate j ln0) ++ ln0.cells := by
  rw [List.replicate_succ', lns_append]; simp [lns]
theorem rep_pgL (j : Nat) : List.replicate (j + 1) ln0 = pgL j 1 false := by rw [List.replicate_succ']; rfl
theorem set_first {j : Nat} {kd : Int} {f b : Bool} : (lns (pgL j kd f)).set (j * 5 + 1) (.bool b) = lns (pgL j kd b) := by
  unfold pgL
  rw [lns_append, lns_append, List.set_append_right _ _ (by rw [lns_len, List.length_replicate]; omega), lns_len, List.length_replicate, Nat.add_sub_cancel_left]
  rfl
theorem set_kind {j : Nat} {kd kd' : Int} {f : Bool} : (lns (pgL j kd f)).set (j * 5) (.int .i64 kd') = lns (pgL j kd' f) := by
  unfold pgL
  rw [lns_append, lns_append, List.set_append_right _ _ (by rw [lns_len, List.length_replicate]; omega), lns_len, List.length_replicate, Nat.sub_self]
  rfl
theorem elemLn : Elem Try.prog 45 5 40 := elem_of (z := .agg #[.int .i64 0, .bool false, .bool false, .bool false, .slice none 0 0]) (by kernel_rfl) (by simp [Value.cells]) (by omega)
theorem one_lns {l : List LN} (h : ∀ x ∈ l, x.One) : ∀ u ∈ lns l, u.oneCell' = true := by
  intro u hu
  obtain ⟨x, hx, hu⟩ := List.mem_flatMap.1 hu
  simp only [LN.cells, List.mem_cons, List.mem_nil_iff, or_false] at hu
  rcases hu with rfl | rfl | rfl | rfl | rfl
  · rfl
  · rfl
  · rfl
  · rfl
  · exact h x hx
theorem own_ln {w : World} {base : Nat} {A : Option Addr} {n c : Nat} {l : List LN} (h : w.ownsRow base 45 5 (.slice A n c) n (lns l)) (hl : l.length = n) (hw : ∀ x ∈ l, -9223372036854775808 ≤ x.kind ∧ x.kind ≤ 9223372036854775807) : LnAt w w.heap.size A n c l := by
  obtain ⟨A', c', e, hc, -⟩ := own_form h
  cases e
  exact ⟨hl, Sl.of_own h, hc, hw⟩
theorem pgL_wide {j : Nat} {kd : Int} {f : Bool} (hk : kd = 1 ∨ kd = 2) {m : List LN} (hm : ∀ x ∈ m, x.kind = 1 ∨ x.kind = 4) : ∀ x ∈ pgL j kd f ++ m, -9223372036854775808 ≤ x.kind ∧ x.kind ≤ 9223372036854775807 := by
  intro x hx
  rcases List.mem_append.1 hx with hx | hx
  · have := pgL_kind hk x hx; omega
  · have := hm x hx; omega
theorem own_lt {w : World} {base : Nat} {e : TypeId} {size n : Nat} {v : Value} {xs : List Value} (h : w.ownsRow base e size v n xs) : ∀ q, v.ownBlock = some q → q < w.heap.size := fun q hq => (h.lt q hq).2
theorem hs0 (W : World) : (Instr.buildSlice 22 0 #[]).run Try.prog W = .ok (.slice (some ⟨W.heap.size, 0, none⟩) 0 0) (W.alloc (.cells #[] 45)) := by
  go_simp
attribute [-go_sem] Builtin.append_
attribute [-go_sem] Instr.buildSlice
set_option maxHeartbeats 16000000 in
set_option maxRecDepth 100000 in
theorem costs_core {nv hv fv : Int} (n0 : 0 ≤ nv) (n1 : nv < 256) (h0 : 0 ≤ hv) (h1 : hv < 256) (f0 : 0 ≤ fv) (f1 : fv < 256) (w : World) : Calls Try.prog 6 #[.int .u8 nv, .int .u8 hv, .int .u8 fv] w (Ret w (.bool true)) := by
  obtain ⟨h, hh⟩ : ∃ h : Nat, 3 + hv % 18 = (h : Int) := ⟨(3 + hv % 18).toNat, by omega⟩
  have h3 : 3 ≤ h ∧ h ≤ 20 := by omega
  have hmod := Int.emod_lt_of_pos nv (show (0 : Int) < (h : Int) by omega)
  have hmod0 := Int.emod_nonneg nv (show (h : Int) ≠ 0 by omega)
  obtain ⟨j, hj⟩ : ∃ j : Nat, nv % (h : Int) = (j : Int) := ⟨(nv % (h : Int)).toNat, by omega⟩
  obtain ⟨d, hd⟩ : ∃ d : Nat, j + 1 + d = h := ⟨h - (j + 1), by omega⟩
  have e1 : IntKind.i64.wrap hv = hv := wrap_small _ (by omega) (by omega)
  have e2 : hv.tmod 18 = hv % 18 := Int.tmod_eq_emod_of_nonneg h0
  have e3 : IntKind.i64.wrap (hv % 18) = hv % 18 := wrap_small _ (by omega) (by omega)
  have e4 : IntKind.i64.wrap (3 + hv % 18) = h := by rw [hh]; exact wrap_small _ (by omega) (by omega)
  have e5 : IntKind.i64.wrap nv = nv := wrap_small _ (by omega) (by omega)
  have e6 : nv.tmod (h : Int) = (j : Int) := by rw [Int.tmod_eq_emod_of_nonneg n0, hj]
  have e7 : IntKind.i64.wrap (j : Int) = (j : Int) := wrap_small _ (by omega) (by omega)
  obtain ⟨k, hk⟩ : ∃ k : Nat, j + 1 = k := ⟨_, rfl⟩
  have e8 : IntKind.i64.wrap (1 + (j : Int)) = (k : Int) := by rw [wrap_small _ (by omega) (by omega)]; omega
  have hn0 : (h : Int) ≠ 0 := by omega
  have hnm : (h : Int) ≠ -1 := by omega
  have e9 : IntKind.i64.wrap ((h : Int) - (k : Int)) = (d : Int) := by rw [wrap_small _ (by omega) (by omega)]; omega
  have hd19 : d ≤ 19 := by omega
  have hdd : d * d ≤ 19 * 19 := Nat.mul_le_mul hd19 hd19
  obtain ⟨LK, hLK⟩ : ∃ q : Int, 10 * (d : Int) * (d : Int) = q := ⟨_, rfl⟩
  have hLK2 : 0 ≤ LK ∧ LK ≤ 3610 := by
    have : (d : Int) * (d : Int) = ((d * d : Nat) : Int) := by simp
    rw [← hLK, Int.mul_assoc, this]; omega
  have e10 : IntKind.i64.wrap (10 * (d : Int)) = 10 * (d : Int) := wrap_small _ (by omega) (by omega)
  have e11 : IntKind.i64.wrap (10 * (d : Int) * (d : Int)) = LK := by rw [hLK]; exact wrap_small _ (by omega) (by omega)
  have hk1 : 1 ≤ k ∧ k ≤ 20 := by omega
  have HD := Lib.hid (And.intro hh (And.intro hj (And.intro hd (And.intro hk hLK))))
  clear hh hj hd hk hLK hmod hmod0
  obtain ⟨ct, bt, hct⟩ : ∃ ct : List Value, Try.prog.built 45 [(0, .int .i64 1)] = some ct.toArray ∧ ct = ln0.cells := ⟨ln0.cells, by kernel_rfl, rfl⟩
  have ht5 : ct.length = 5 := by rw [hct]; rfl
  have hs1 := fun W => run_slice1 (P := Try.prog) (t := 22) lnZ Try.underlying22 (s := 5) rfl (by omega) (by omega) ct ht5 W
  have hone : ∀ u ∈ ct, u.oneCell' = true := by rw [hct]; intro u hu; simp only [LN.cells, ln0, lz, List.mem_cons, List.mem_nil_iff, or_false] at hu; rcases hu with rfl | rfl | rfl | rfl | rfl <;> rfl
  have HCT := Lib.hid hct
  clear hct
  go_enter Try.func6, Try.ntmps6
  go_wp2_with fail
  go_loopw [9, 10] (fun s9 s10 wr => ∃ (i : Nat) (A : Option Addr) (c : Nat), i ≤ k ∧ s9 = .slice A i c ∧ s10 = .int .i64 i ∧ wr.ownsRow w.heap.size 45 5 (.slice A i c) i (lns (List.replicate i ln0)) ∧ Below w.heap.size w wr) (fun _ i _ => k - (intOf i).toNat)
  case atStart => exact ⟨0, none, 0, by omega, rfl, rfl, World.ownsRow_nil _ _ _ _, Below.refl _ _⟩
  case round =>
    obtain ⟨i, A, c, hi, rfl, rfl, hown, hb⟩ := hrel
    by_cases hlt : i < k
    · have hlt' : (i : Int) < (k : Int) := by omega
      have g1 : IntKind.i64.wrap ((i : Int) + 1) = ((i + 1 : Nat) : Int) := by rw [wrap_small _ (by omega) (by omega)]; omega
      go_upto_region 7 with (fail)
      refine wp_region_lit ?_
      iterate 3 (first | go_guarded | go_step)
      refine wpList_built rfl 45 #[(0, .const (.int .i64 1))] rfl (cs := ct.toArray) (by simp only [List.map_toArray, List.map_cons, List.map_nil]; exact bt) ?_
      (try simp only [Act.put, List.setIfInBounds_toArray, List.set_cons_zero, List.set_cons_succ])
      refine wpList_slice rfl 22 1 #[(0, .tmp 36)] rfl (by simp only [List.map_toArray, List.map_cons, List.map_nil]; exact hs1 wr) ?_
      (try simp only [Act.put, List.setIfInBounds_toArray, List.set_cons_zero, List.set_cons_succ])
      refine wpList_app _ rfl (.tmp 35) (.tmp 37) 22 rfl (base := w.heap.size) Try.underlying22 elemLn rfl (hown.alloc _) rfl (Sl.new (n := 1) (heap_alloc_new _ _) (by simpa using ht5)) hone (by simp only [maxLen]; omega) (by omega) (by have := hb.size; simp; omega) ?_
      intro A38 c38 w38 hown38 hg38 hb38 hat38
      have hb2 := (hb.alloc hb.size (.cells ct.toArray 45)).trans hb38
      have HR := Lib.hid (And.intro hown38 hb2)
      clear hown38 hg38 hb38 hat38 hb2 hown hb
      (try simp only [Act.put, List.setIfInBounds_toArray, List.set_cons_zero, List.set_cons_succ])
      go_wp2_with fail
      go_roundw
      case rel =>
        refine ⟨i + 1, A38, c38, by omega, rfl, by go_num, ?_, HR.out.2⟩
        rw [lns_rep, ← HCT.out]
        exact HR.out.1
      case measure => simp [intOf]; omega
    · obtain rfl : i = k := by omega
      have hlt' : ¬ (i : Int) < (i : Int) := by omega
      obtain ⟨q, cap, hA, hq0⟩ : ∃ q cap, A = some ⟨q, 0, none⟩ ∧ w.heap.size ≤ q := by
        rcases hown.2 with ⟨e, h0⟩ | ⟨g, cap, cur, e, hg, -⟩
        · omega
        · injection e with e1
          exact ⟨g, cap, e1, hg⟩
      subst hA
      have hownL : wr.ownsRow w.heap.size 45 5 (.slice (some ⟨q, 0, none⟩) i c) i (lns (pgL j 1 false)) := by
        have := hown
        rw [← HD.out.2.2.2.1, rep_pgL] at this
        rw [← HD.out.2.2.2.1]
        exact this
      have hqw := (hown.lt q rfl).2
      clear hown
      have g1 : IntKind.i64.wrap ((i : Int) - 1) = (j : Int) := by have := HD.out.2.2.2.1; rw [wrap_small _ (by omega) (by omega)]; omega
      have hji : j < i := by have := HD.out.2.2.2.1; omega
      have hjn : (0 : Int) ≤ (j : Int) := by omega
      have hji' : (j : Int) < (i : Int) := by omega
      go_upto_if 49 with (fail)
      generalize (bits BinOp.and IntKind.u8 fv 1 == 1) = b1
      go_cut [11] from 49 to 57 (fun s11 wx => s11 = .int .i64 (LK + pt b1 150) ∧ wx.ownsRow w.heap.size 45 5 (.slice (some ⟨q, 0, none⟩) i c) i (lns (pgL j 1 b1)) ∧ Below w.heap.size w wx)
      case first =>
        cases b1
        · go_wp2_with fail
          go_meet
          exact ⟨by simp [pt], hownL, hb⟩
        · have k1 : wr.cell? ⟨q, j * 5 + 1, none⟩ = some (.bool false) := own_last hownL (by simp) 1 rfl
          have k2 : wr.frozen? ⟨q, j * 5 + 1, none⟩ = false := hownL.frozenAt _
          have g2 : IntKind.i64.wrap (LK + 150) = LK + 150 := wrap_small _ (by omega) (by omega)
          have HO := Lib.hid (And.intro hownL hb)
          clear hownL hb
          go_wp2_with fail
          go_meet
          refine ⟨by simp [pt], ?_, ?_⟩
          · have := (HO.out.1.stored (j * 5 + 1) (.bool true)).1
            rw [set_first] at this
            exact this
          · exact HO.out.2.setCell (p := ⟨q, j * 5 + 1, none⟩) (by exact hq0) _
      case rest =>
      clear hownL hb hqw
      obtain ⟨rfl, hownL, hb⟩ := hcut
      obtain ⟨L1, hL1⟩ : ∃ q, LK + pt b1 150 = q := ⟨_, rfl⟩
      have hL1b : 0 ≤ L1 ∧ L1 ≤ 4000 := by rw [← hL1]; unfold pt; split <;> omega
      rw [hL1]
      have HL1 := Lib.hid hL1
      clear hL1
      go_upto_if 59 with (fail)
      generalize (bits BinOp.and IntKind.u8 fv 2 == 2) = b2
      go_cut [11] from 59 to 67 (fun s11 wx => s11 = .int .i64 (L1 + pt b2 500) ∧ wx.ownsRow w.heap.size 45 5 (.slice (some ⟨q, 0, none⟩) i c) i (lns (pgL j (1 + pt b2 1) b1)) ∧ Below w.heap.size w wx)
      case first =>
        cases b2
        · go_wp2_with fail
          go_meet
          exact ⟨by simp [pt], hownL, hb⟩
        · have k1 : wc.cell? ⟨q, j * 5, none⟩ = some (.int .i64 1) := own_last hownL (by simp) 0 rfl
          have k2 : wc.frozen? ⟨q, j * 5, none⟩ = false := hownL.frozenAt _
          have g2 : IntKind.i64.wrap (L1 + 500) = L1 + 500 := wrap_small _ (by omega) (by omega)
          have HO := Lib.hid (And.intro hownL hb)
          clear hownL hb
          go_wp2_with fail
          go_meet
          refine ⟨by simp [pt], ?_, ?_⟩
          · have := (HO.out.1.stored (j * 5) (.int .i64 2)).1
            rw [set_kind] at this
            exact this
          · exact HO.out.2.setCell (p := ⟨q, j * 5, none⟩) (by exact hq0) _
      case rest =>
      clear hownL hb
      obtain ⟨rfl, hownL, hb⟩ := hcut
      obtain ⟨L2, hL2⟩ : ∃ q, L1 + pt b2 500 = q := ⟨_, rfl⟩
      have hL2b : 0 ≤ L2 ∧ L2 ≤ 4500 := by rw [← hL2]; unfold pt; split <;> omega
      rw [hL2]
      have HL2 := Lib.hid hL2
      clear hL2
      obtain ⟨kd, hkd⟩ : ∃ q, 1 + pt b2 1 = q := ⟨_, rfl⟩
      rw [hkd] at hownL
      have HKD := Lib.hid hkd
      clear hkd
      have hti : (Try.prog.info? 45).map (·.size) = some ct.toArray.size := by rw [List.size_toArray, ht5]; exact ln_size
      have hlz := lnZ
      obtain ⟨zl, hzl⟩ : ∃ q : Array Value, #[.int .i64 0, .bool false, .bool false, .bool false, .slice none 0 0] = q := ⟨_, rfl⟩
      have hzc : zl.size = ct.toArray.size := by rw [← hzl]; simp [ht5]
      have hoc : ct.toArray.all (·.oneCell') = true := all_oneCell_toArray hone
      rw [hzl] at hlz
      clear hzl
      obtain ⟨Y, hY, y12, bY⟩ := newRow wc zl ct.toArray 45
      have hownY := own_below hownL bY
      have hbY := hb.trans (bY.mono hb.size)
      have hqg : q < wc.heap.size := (hownL.lt q rfl).2
      have hwg : w.heap.size ≤ wc.heap.size := hb.size
      clear hownL hb bY
      go_upto_region 15 with (fail)
      refine wp_region_lit ?_
      refine wpList_built rfl 45 #[(0, .const (.int .i64 1))] rfl (cs := ct.toArray) (by simp only [List.map_toArray, List.map_cons, List.map_nil]; exact bt) ?_
      (try simp only [Act.put, List.setIfInBounds_toArray, List.set_cons_zero, List.set_cons_succ])
      refine wpList_new rfl hlz rfl ?_
      (try simp only [Act.put, List.setIfInBounds_toArray, List.set_cons_zero, List.set_cons_succ])
      refine wpList_store_row rfl 45 (.tmp 12) (.tmp 67) rfl _ ct.toArray rfl rfl _ zl (heap_alloc_new _ _) hti hzc hoc ?_
      rw [hY]
      clear hY
      obtain ⟨g, hg⟩ : ∃ q, wc.heap.size = q := ⟨_, rfl⟩
      rw [hg] at y12 hqg hwg ⊢
      clear hg
      go_upto_if 70 with (fail)
      generalize (bits BinOp.and IntKind.u8 fv 4 == 4) = b3
      go_cut [11] from 70 to 73 (fun s11 wx => s11 = .int .i64 (L2 + pt b3 150) ∧ wx.ownsRow w.heap.size 45 5 (.slice (some ⟨q, 0, none⟩) i c) i (lns (pgL j kd b1)) ∧ Below w.heap.size w wx ∧ wx.heap[g]? = some (.cells (⟨1, false, b3, false, lz⟩ : LN).cells.toArray 45))
      case first =>
        rw [HCT.out] at y12
        cases b3
        · have HO := Lib.hid y12
          clear y12
          go_wp2_with fail
          go_meet
          exact ⟨by simp [pt], hownY, hbY, HO.out⟩
        · have k1 : Y.cell? ⟨g, 2, none⟩ = some (.bool false) := blk_cell y12 rfl
          have k2 : Y.frozen? ⟨g, 2, none⟩ = false := blk_frozen y12 2
          have g2 : IntKind.i64.wrap (L2 + 150) = L2 + 150 := wrap_small _ (by omega) (by omega)
          have HO := Lib.hid (And.intro hownY (And.intro hbY y12))
          clear hownY hbY y12
          go_wp2_with fail
          go_meet
          obtain ⟨h1, h2, h3⟩ := HO.out
          refine ⟨by simp [pt], ?_, h2.setCell (p := ⟨g, 2, none⟩) (by exact hwg) _, blk_set h3 2 (.bool true)⟩
          refine ⟨h1.1, ?_⟩
          rcases h1.2 with h | ⟨q', cap', cur, e, h4, h5, h6⟩
          · exact .inl h
          · exact .inr ⟨q', cap', cur, e, h4, blk_far h5 _ (by injection e with e1; injection e1 with e1; injection e1 with e1; subst e1; show q ≠ g; omega), h6⟩
      case rest =>
      clear hownY hbY y12
      obtain ⟨rfl, hownL, hb, y12⟩ := hcut
      rename World => V
      obtain ⟨LT, hLT⟩ : ∃ q, L2 + pt b3 150 = q := ⟨_, rfl⟩
      rw [hLT]
      have hkd12 : kd = 1 ∨ kd = 2 := by have := HKD.out; rw [← this]; cases b2 <;> simp [pt]
      have hkd2 : decide (kd = 2) = b2 := by have := HKD.out; rw [← this]; cases b2 <;> simp [pt]
      obtain ⟨PL, hPL⟩ : ∃ q, pgL j kd b1 = q := ⟨_, rfl⟩
      have hPln : PL.length = i := by rw [← hPL, pgL_len]; exact HD.out.2.2.2.1
      have hPone : ∀ x ∈ PL, x.One := by rw [← hPL]; exact pgL_one
      have hcA : ∀ W A c, LnAt W W.heap.size A (i + 1) c (PL ++ [⟨1, false, b3, false, lz⟩]) → Calls Try.prog 11 #[.slice A (i + 1) c, .int .i64 0, .int .i64 (i : Int), .int .i64 (h : Int)] W (Ret W (.tuple #[.int .i64 LT, .bool true])) := fun W A c hl => by
        have := cost_any (a := 0) (b := (i : Int)) (h := (h : Int)) W hl (fun x hx => by
          rcases List.mem_append.1 hx with hx | hx
          · exact hPone x hx
          · obtain rfl := List.mem_singleton.1 hx; rfl) (by omega) (by omega)
        have e1 := HD.out.2.2.2.1
        have e2 := HD.out.2.2.1
        rw [← hPL, ← e1, cost_beh (d := d) hkd12 (by omega), pgl_yes hkd12 (by omega), HD.out.2.2.2.2, hkd2, HL1.out, HL2.out, hLT] at this
        rw [← e1]
        exact this
      have hcC : ∀ W A c, LnAt W W.heap.size A (i + 1) c (PL ++ [⟨4, false, false, false, lz⟩]) → Calls Try.prog 11 #[.slice A (i + 1) c, .int .i64 0, .int .i64 (i : Int), .int .i64 (h : Int)] W (Ret W (.tuple #[.int .i64 0, .bool true])) := fun W A c hl => by
        have := cost_any (a := 0) (b := (i : Int)) (h := (h : Int)) W hl (fun x hx => by
          rcases List.mem_append.1 hx with hx | hx
          · exact hPone x hx
          · obtain rfl := List.mem_singleton.1 hx; rfl) (by omega) (by omega)
        have e1 := HD.out.2.2.2.1
        have e2 := HD.out.2.2.1
        rw [← hPL, ← e1, cost_end (.inr rfl), pgl_yes hkd12 (by omega)] at this
        rw [← e1]
        exact this
      have hcB : ∀ W A c, LnAt W W.heap.size A i c PL → Calls Try.prog 11 #[.slice A i c, .int .i64 0, .int .i64 (i : Int), .int .i64 (h : Int)] W (Ret W (.tuple #[.int .i64 0, .bool true])) := fun W A c hl => by
        have := cost_any (a := 0) (b := (i : Int)) (h := (h : Int)) W hl hPone (by omega) (by omega)
        have e1 := HD.out.2.2.2.1
        have e2 := HD.out.2.2.1
        have e3 := cost_end (j := j) (kd := kd) (f := b1) (h := (h : Int)) (m := []) (.inl rfl)
        have e4 := pgl_yes (j := j) (kd := kd) (f := b1) (h := (h : Int)) (m := []) hkd12 (by omega)
        rw [List.append_nil, hPL, e1] at e3 e4
        rw [e3, e4] at this
        exact this
      obtain ⟨zD, hzD⟩ : ∃ q, costN PL 0 (i : Int) (j : Int) = q := ⟨_, rfl⟩
      have hcD : ∀ W A c, LnAt W W.heap.size A i c PL → Calls Try.prog 11 #[.slice A i c, .int .i64 0, .int .i64 (i : Int), .int .i64 (j : Int)] W (Ret W (.tuple #[.int .i64 zD, .bool false])) := fun W A c hl => by
        have := cost_any (a := 0) (b := (i : Int)) (h := (j : Int)) W hl hPone (by omega) (by omega)
        have e1 := HD.out.2.2.2.1
        have e4 := cost_not (j := j) (kd := kd) (f := b1) (h := (j : Int)) (m := []) rfl
        rw [List.append_nil, hPL, e1] at e4
        rw [hzD, e4] at this
        exact this
      rw [hPL] at hownL
      have hPw : ∀ m : List LN, (∀ x ∈ m, x.kind = 1 ∨ x.kind = 4) → ∀ x ∈ PL ++ m, -9223372036854775808 ≤ x.kind ∧ x.kind ≤ 9223372036854775807 := fun m hm => by rw [← hPL]; exact pgL_wide hkd12 hm
      have hlnV : LnAt V V.heap.size (some ⟨q, 0, none⟩) i c PL := own_ln hownL hPln (by have := hPw [] (by simp); rw [List.append_nil] at this; exact this)
      have hlA : ∀ W A c', W.ownsRow V.heap.size 45 5 (.slice A (i + 1) c') (i + 1) (lns PL ++ (⟨1, false, b3, false, lz⟩ : LN).cells) → LnAt W W.heap.size A (i + 1) c' (PL ++ [⟨1, false, b3, false, lz⟩]) := fun W A c' ho =>
        own_ln (l := PL ++ [⟨1, false, b3, false, lz⟩]) (by rw [lns_append]; simpa [lns] using ho) (by simp [hPln]) (hPw _ (by simp))
      have hlC : ∀ B W A c', W.ownsRow B 45 5 (.slice A (i + 1) c') (i + 1) (lns PL ++ (⟨4, false, false, false, lz⟩ : LN).cells) → LnAt W W.heap.size A (i + 1) c' (PL ++ [⟨4, false, false, false, lz⟩]) := fun B W A c' ho =>
        own_ln (l := PL ++ [⟨4, false, false, false, lz⟩]) (by rw [lns_append]; simpa [lns] using ho) (by simp [hPln]) (hPw _ (by simp))
      have hopl : ∀ u ∈ lns PL, u.oneCell' = true := one_lns hPone
      clear hPone hPw hzD hLT hkd2 hkd12 HKD HL1 HL2 hPL hownL
      obtain ⟨bc, hbc⟩ : ∃ q, (⟨1, false, b3, false, lz⟩ : LN).cells = q := ⟨_, rfl⟩
      have hbc5 : bc.length = 5 := by rw [← hbc]; rfl
      have hobc : ∀ u ∈ bc, u.oneCell' = true := by rw [← hbc]; intro u hu; simp only [LN.cells, lz, List.mem_cons, List.mem_nil_iff, or_false] at hu; rcases hu with rfl | rfl | rfl | rfl | rfl <;> rfl
      rw [hbc] at y12
      simp only [hbc] at hlA
      clear hbc
      have hsb := fun W => run_slice1 (P := Try.prog) (t := 22) lnZ Try.underlying22 (s := 5) rfl (by omega) (by omega) bc hbc5 W
      have hslV := hlnV.sl
      have hti12 : (Try.prog.info? 45).map (·.size) = some bc.length := by rw [hbc5]; exact ln_size
      have hgV : g < V.heap.size := (Array.getElem?_eq_some_iff.1 y12).1
      have HV := Lib.hid (And.intro hlnV (And.intro hb hlC))
      clear hlnV hb hlC hs1 bt
      go_upto_region 19 with (fail)
      go_cut [13, 14] from 74 to 85 (fun s13 s14 wx => s13 = .int .i64 LT ∧ s14 = .bool true ∧ Below V.heap.size V wx)
      case first =>
        clear hcB hcC hcD HV
        let S : World → Prop := fun w' => Below V.heap.size V w'
        have hS0 : S V.drew := (Below.refl _ _).drew
        have r12 : ∀ w', S w' → w'.rangeAt g 0 bc := fun w' h => bRange h hgV (range_blk y12)
        clear y12
        refine wp_region_held (S := S) (by kernel_rfl) ?_
        change wpAnyH _ _ _ _ S _ _ _ V.drew
        refine wpAnyH_take (i := 1) (oi := ?oi_1) (v := ?v_1) ?ho_1 ?h1_1 ?h2_1 ?h3_1 ?hq_1 (Or.inl ⟨?hw_1, ?hy_1⟩) ?hs_1 ?rest_1; (case h2_1 => kernel_rfl); (case h3_1 => kernel_rfl); (case ho_1 => (simp only [List.getElem?_toArray, List.getElem?_cons_zero, List.getElem?_cons_succ]; rfl)); (case h1_1 => kernel_rfl); (case hq_1 => exact fun _ _ _ h => h); (case hw_1 => rfl); (case hy_1 => (intro w' hSw; (try simp only [S] at hSw); go_simp; (try with_reducible rfl))); (case hs_1 => assumption); (try simp only [Act.put, List.setIfInBounds_toArray, List.set_cons_zero, List.set_cons_succ])
        refine wpAnyH_take (i := 6) (oi := ?oi_2) (v := ?v_2) ?ho_2 ?h1_2 ?h2_2 ?h3_2 ?hq_2 (Or.inl ⟨?hw_2, ?hy_2⟩) ?hs_2 ?rest_2; (case h2_2 => kernel_rfl); (case h3_2 => kernel_rfl); (case ho_2 => (simp only [List.getElem?_toArray, List.getElem?_cons_zero, List.getElem?_cons_succ]; rfl)); (case h1_2 => kernel_rfl); (case hq_2 => exact fun _ _ _ h => h); (case hw_2 => rfl); (case hy_2 => (intro w' hSw; (try simp only [S] at hSw); go_simp; (try with_reducible rfl))); (case hs_2 => assumption); (try simp only [Act.put, List.setIfInBounds_toArray, List.set_cons_zero, List.set_cons_succ])
        refine wpAnyH_take (i := 7) (oi := ?oi_3) (v := ?v_3) ?ho_3 ?h1_3 ?h2_3 ?h3_3 ?hq_3 (Or.inl ⟨?hw_3, ?hy_3⟩) ?hs_3 ?rest_3; (case h2_3 => kernel_rfl); (case h3_3 => kernel_rfl); (case ho_3 => (simp only [List.getElem?_toArray, List.getElem?_cons_zero, List.getElem?_cons_succ]; rfl)); (case h1_3 => kernel_rfl); (case hq_3 => exact fun _ _ _ h => h); (case hw_3 => rfl); (case hy_3 => (intro w' hSw; (try simp only [S] at hSw); go_simp; (try with_reducible rfl))); (case hs_3 => assumption); (try simp only [Act.put, List.setIfInBounds_toArray, List.set_cons_zero, List.set_cons_succ])
        refine wpAnyH_take (i := 3) (oi := ?oi_19) (v := ?v_19) ?ho_19 ?h1_19 ?h2_19 ?h3_19 ?hq_19 (Or.inl ⟨?hw_19, ?hy_19⟩) ?hs_19 ?rest_19; (case h2_19 => kernel_rfl); (case h3_19 => kernel_rfl); (case ho_19 => (simp only [List.getElem?_toArray, List.getElem?_cons_zero, List.getElem?_cons_succ]; rfl)); (case h1_19 => kernel_rfl); (case hq_19 => exact fun _ _ _ h => h); (case hw_19 => rfl); (case hy_19 => (intro w' hSw; refine exec_load_row (x := .tmp 12) ?_ ?_ (r12 w' hSw) Try.underlying45 ?_ hti12 <;> rfl)); (case hs_19 => assumption); (try simp only [Act.put, List.setIfInBounds_toArray, List.set_cons_zero, List.set_cons_succ])
        have q0 := hs0 V.drew
        have q4 := hsb V.drew
        refine wpAnyH_ready (rs := [0, 4]) (by kernel_rfl) (by simp) (AllReadyH.cons (o := ?oo0_20) ?hoo0_20 (fun K hK => ?step0) (AllReadyH.cons (o := ?oo4_20) ?hoo4_20 (fun K hK => ?step4) AllReadyH.nil)); (case hoo0_20 => (simp only [List.getElem?_toArray, List.getElem?_cons_zero, List.getElem?_cons_succ]; rfl)); (case hoo4_20 => (simp only [List.getElem?_toArray, List.getElem?_cons_zero, List.getElem?_cons_succ]; rfl))
        case step0 =>
          clear q4
          have hS1 : S (V.drew.alloc (.cells #[] 45)) := (Below.refl _ V).drew.alloc (Nat.le_refl _) _
          have own0 := own_none' V.drew V.heap.size 45 5 (Nat.le_refl _)
          go_simp
          refine hK.out _ _ hS1 (fun _ => ?_)
          clear hK K q0
          (try simp only [Act.put, List.setIfInBounds_toArray, List.set_cons_zero, List.set_cons_succ])
          obtain ⟨U, hU⟩ : ∃ q, (V.alloc (.cells #[] 45)).drew = q := ⟨_, rfl⟩
          have hU' : V.drew.alloc (.cells #[] 45) = U := hU
          rw [hU'] at hS1 own0
          rw [hU]
          clear hU hU'
          have hzU := (show Below V.heap.size V U from hS1).size
          have q4 := hsb U
          refine wpAnyH_ready (rs := [2, 4]) (by kernel_rfl) (by simp) (AllReadyH.cons (o := ?oo2_21) ?hoo2_21 (fun K hK => ?stepX2) (AllReadyH.cons (o := ?oo4_21) ?hoo4_21 (fun K hK => ?stepX4) AllReadyH.nil)); (case hoo2_21 => (simp only [List.getElem?_toArray, List.getElem?_cons_zero, List.getElem?_cons_succ]; rfl)); (case hoo4_21 => (simp only [List.getElem?_toArray, List.getElem?_cons_zero, List.getElem?_cons_succ]; rfl))
          case stepX2 =>
            clear q4
            refine step_app _ rfl (.tmp 75) (.tmp 76) 22 rfl (base := V.heap.size) Try.underlying22 elemLn rfl own0 rfl (hslV.below hS1) hopl (by simp only [maxLen]; omega) (by omega) hzU ?_
            intro A77 c77 w77 hown77 hg77 hb77 hat77
            simp only [Nat.zero_add, List.nil_append] at hown77 ⊢
            have hS2 : S w77 := (show Below V.heap.size V U from hS1).trans hb77
            have hz7 := (show Below V.heap.size V w77 from hS2).size
            refine hK.out _ _ hS2 (fun _ => ?_)
            clear hK K
            (try simp only [Act.put, List.setIfInBounds_toArray, List.set_cons_zero, List.set_cons_succ])
            have q4 := hsb w77
            refine wpAnyH_ready (rs := [4]) (by kernel_rfl) (by simp) (AllReadyH.cons (o := ?oo4_22) ?hoo4_22 (fun K hK => ?steponly22) AllReadyH.nil); (case hoo4_22 => (simp only [List.getElem?_toArray, List.getElem?_cons_zero, List.getElem?_cons_succ]; rfl))
            have hS3 : S (w77.alloc (.cells bc.toArray 45)) := (show Below V.heap.size V w77 from hS2).alloc hz7 _
            have HT := Lib.hid (And.intro (hown77.alloc (.cells bc.toArray 45)) (And.intro (Sl.new (n := 1) (sz := 5) (heap_alloc_new w77 (.cells bc.toArray 45)) (by simpa using hbc5)) hS3))
            go_simp
            refine hK.out _ _ hS3 (fun _ => ?_)
            clear hK K q4 hown77 hg77 hb77 hat77 own0 hS1 hS2 hS3
            (try simp only [Act.put, List.setIfInBounds_toArray, List.set_cons_zero, List.set_cons_succ])
            obtain ⟨U9, hU9⟩ : ∃ q, w77.alloc (.cells bc.toArray 45) = q := ⟨_, rfl⟩
            rw [hU9] at HT ⊢
            clear hU9
            obtain ⟨hown77, hx79, hS9⟩ := HT.out
            clear HT
            have hz9 := (show Below V.heap.size V U9 from hS9).size
            refine wpAnyH_ready (rs := [5]) (by kernel_rfl) (by simp) (AllReadyH.cons (o := ?oo5_23) ?hoo5_23 (fun K hK => ?steponly23) AllReadyH.nil); (case hoo5_23 => (simp only [List.getElem?_toArray, List.getElem?_cons_zero, List.getElem?_cons_succ]; rfl))
            refine step_app _ rfl (.tmp 77) (.tmp 79) 22 rfl (base := V.heap.size) Try.underlying22 elemLn rfl hown77 rfl hx79 hobc (by simp only [maxLen]; omega) (by omega) hz9 ?_
            intro A80 c80 w80 hown80 hg80 hb80 hat80
            have hS10 : S w80 := (show Below V.heap.size V U9 from hS9).trans hb80
            have hln80 := hlA w80 A80 c80 hown80
            refine hK.out _ _ hS10 (fun _ => ?_)
            clear hK K hown77 hx79 hown80 hg80 hb80 hat80
            (try simp only [Act.put, List.setIfInBounds_toArray, List.set_cons_zero, List.set_cons_succ])
            refine wpAnyH_ready (rs := [8]) (by kernel_rfl) (by simp) (AllReadyH.cons (o := ?oo8_24) ?hoo8_24 (fun K hK => ?steponly24) AllReadyH.nil); (case hoo8_24 => (simp only [List.getElem?_toArray, List.getElem?_cons_zero, List.getElem?_cons_succ]; rfl))
            go_simp
            refine Calls.mono (hcA w80 A80 c80 hln80) ?_
            rintro e w83 ⟨rfl, hb83⟩
            have hz10 := (show Below V.heap.size V w80 from hS10).size
            have hS11 : S w83 := (show Below V.heap.size V w80 from hS10).trans (hb83.mono hz10)
            refine hK.out _ _ hS11 (fun _ => ?_)
            clear hK K hln80 hb83
            (try simp only [Act.put, List.setIfInBounds_toArray, List.set_cons_zero, List.set_cons_succ])
            refine wpAnyH_take (i := 9) (oi := ?oi_4) (v := ?v_4) ?ho_4 ?h1_4 ?h2_4 ?h3_4 ?hq_4 (Or.inl ⟨?hw_4, ?hy_4⟩) ?hs_4 ?rest_4; (case h2_4 => kernel_rfl); (case h3_4 => kernel_rfl); (case ho_4 => (simp only [List.getElem?_toArray, List.getElem?_cons_zero, List.getElem?_cons_succ]; rfl)); (case h1_4 => kernel_rfl); (case hq_4 => exact fun _ _ _ h => h); (case hw_4 => rfl); (case hy_4 => (intro w' hSw; (try simp only [S] at hSw); go_simp; (try with_reducible rfl))); (case hs_4 => assumption); (try simp only [Act.put, List.setIfInBounds_toArray, List.set_cons_zero, List.set_cons_succ])
            refine wpAnyH_take (i := 10) (oi := ?oi_5) (v := ?v_5) ?ho_5 ?h1_5 ?h2_5 ?h3_5 ?hq_5 (Or.inl ⟨?hw_5, ?hy_5⟩) ?hs_5 ?rest_5; (case h2_5 => kernel_rfl); (case h3_5 => kernel_rfl); (case ho_5 => (simp only [List.getElem?_toArray, List.getElem?_cons_zero, List.getElem?_cons_succ]; rfl)); (case h1_5 => kernel_rfl); (case hq_5 => exact fun _ _ _ h => h); (case hw_5 => rfl); (case hy_5 => (intro w' hSw; (try simp only [S] at hSw); go_simp; (try with_reducible rfl))); (case hs_5 => assumption); (try simp only [Act.put, List.setIfInBounds_toArray, List.set_cons_zero, List.set_cons_succ])
            refine wpAnyH_take (i := 11) (oi := ?oi_6) (v := ?v_6) ?ho_6 ?h1_6 ?h2_6 ?h3_6 ?hq_6 (Or.inl ⟨?hw_6, ?hy_6⟩) ?hs_6 ?rest_6; (case h2_6 => kernel_rfl); (case h3_6 => kernel_rfl); (case ho_6 => (simp only [List.getElem?_toArray, List.getElem?_cons_zero, List.getElem?_cons_succ]; rfl)); (case h1_6 => kernel_rfl); (case hq_6 => exact fun _ _ _ h => h); (case hw_6 => rfl); (case hy_6 => (intro w' hSw; (try simp only [S] at hSw); go_simp; (try with_reducible rfl))); (case hs_6 => assumption); (try simp only [Act.put, List.setIfInBounds_toArray, List.set_cons_zero, List.set_cons_succ])
            refine wpAnyH_take (i := 12) (oi := ?oi_7) (v := ?v_7) ?ho_7 ?h1_7 ?h2_7 ?h3_7 ?hq_7 (Or.inl ⟨?hw_7, ?hy_7⟩) ?hs_7 ?rest_7; (case h2_7 => kernel_rfl); (case h3_7 => kernel_rfl); (case ho_7 => (simp only [List.getElem?_toArray, List.getElem?_cons_zero, List.getElem?_cons_succ]; rfl)); (case h1_7 => kernel_rfl); (case hq_7 => exact fun _ _ _ h => h); (case hw_7 => rfl); (case hy_7 => (intro w' hSw; (try simp only [S] at hSw); go_simp; (try with_reducible rfl))); (case hs_7 => assumption); (try simp only [Act.put, List.setIfInBounds_toArray, List.set_cons_zero, List.set_cons_succ])
            refine wpAnyH_take (i := 13) (oi := ?oi_8) (v := ?v_8) ?ho_8 ?h1_8 ?h2_8 ?h3_8 ?hq_8 (Or.inl ⟨?hw_8, ?hy_8⟩) ?hs_8 ?rest_8; (case h2_8 => kernel_rfl); (case h3_8 => kernel_rfl); (case ho_8 => (simp only [List.getElem?_toArray, List.getElem?_cons_zero, List.getElem?_cons_succ]; rfl)); (case h1_8 => kernel_rfl); (case hq_8 => exact fun _ _ _ h => h); (case hw_8 => rfl); (case hy_8 => (intro w' hSw; (try simp only [S] at hSw); go_simp; (try with_reducible rfl))); (case hs_8 => assumption); (try simp only [Act.put, List.setIfInBounds_toArray, List.set_cons_zero, List.set_cons_succ])
            refine wpAnyH_done (by kernel_rfl) ?_ _
            have HE := Lib.hid (show Below V.heap.size V _ from hS11)
            clear hS0 hS9 hS10 hS11 r12
            go_wp2_with fail
            go_meet
            exact ⟨rfl, rfl, HE.out⟩
          case stepX4 =>
            have hS2 : S (U.alloc (.cells bc.toArray 45)) := (show Below V.heap.size V U from hS1).alloc hzU _
            have own1 := own0.alloc (.cells bc.toArray 45)
            have hx79 := heap_alloc_new U (.cells bc.toArray 45)
            have hge0 := own_lt own0
            go_simp
            refine hK.out _ _ hS2 (fun _ => ?_)
            clear hK K q4
            (try simp only [Act.put, List.setIfInBounds_toArray, List.set_cons_zero, List.set_cons_succ])
            obtain ⟨U2, hU2⟩ : ∃ q, U.alloc (.cells bc.toArray 45) = q := ⟨_, rfl⟩
            rw [hU2] at hS2 own1 hx79 ⊢
            clear hU2
            have hz2 := (show Below V.heap.size V U2 from hS2).size
            refine wpAnyH_ready (rs := [2]) (by kernel_rfl) (by simp) (AllReadyH.cons (o := ?oo2_25) ?hoo2_25 (fun K hK => ?steponly25) AllReadyH.nil); (case hoo2_25 => (simp only [List.getElem?_toArray, List.getElem?_cons_zero, List.getElem?_cons_succ]; rfl))
            refine step_app _ rfl (.tmp 75) (.tmp 76) 22 rfl (base := V.heap.size) Try.underlying22 elemLn rfl own1 rfl (hslV.below hS2) hopl (by simp only [maxLen]; omega) (by omega) hz2 ?_
            intro A77 c77 w77 hown77 hg77 hb77 hat77
            simp only [Nat.zero_add, List.nil_append] at hown77 ⊢
            have hS3 : S w77 := (show Below V.heap.size V U2 from hS2).trans hb77
            have hx9 := (Sl.new (n := 1) (sz := 5) ((hg77.block _ (Array.getElem?_eq_some_iff.1 hx79).1 (fun e => by have := hge0 _ e.symm; omega)).trans hx79) (by simpa using hbc5))
            have HT := Lib.hid (And.intro hown77 (And.intro hx9 hS3))
            refine hK.out _ _ hS3 (fun _ => ?_)
            clear hK K hown77 hg77 hb77 hat77 own0 own1 hS1 hS2 hS3 hx79 hx9
            (try simp only [Act.put, List.setIfInBounds_toArray, List.set_cons_zero, List.set_cons_succ])
            obtain ⟨U9, hU9⟩ : ∃ q, w77 = q := ⟨_, rfl⟩
            rw [hU9] at HT ⊢
            clear hU9
            obtain ⟨hown77, hx79, hS9⟩ := HT.out
            clear HT
            have hz9 := (show Below V.heap.size V U9 from hS9).size
            refine wpAnyH_ready (rs := [5]) (by kernel_rfl) (by simp) (AllReadyH.cons (o := ?oo5_26) ?hoo5_26 (fun K hK => ?steponly26) AllReadyH.nil); (case hoo5_26 => (simp only [List.getElem?_toArray, List.getElem?_cons_zero, List.getElem?_cons_succ]; rfl))
            refine step_app _ rfl (.tmp 77) (.tmp 79) 22 rfl (base := V.heap.size) Try.underlying22 elemLn rfl hown77 rfl hx79 hobc (by simp only [maxLen]; omega) (by omega) hz9 ?_
            intro A80 c80 w80 hown80 hg80 hb80 hat80
            have hS10 : S w80 := (show Below V.heap.size V U9 from hS9).trans hb80
            have hln80 := hlA w80 A80 c80 hown80
            refine hK.out _ _ hS10 (fun _ => ?_)
            clear hK K hown77 hx79 hown80 hg80 hb80 hat80
            (try simp only [Act.put, List.setIfInBounds_toArray, List.set_cons_zero, List.set_cons_succ])
            refine wpAnyH_ready (rs := [8]) (by kernel_rfl) (by simp) (AllReadyH.cons (o := ?oo8_27) ?hoo8_27 (fun K hK => ?steponly27) AllReadyH.nil); (case hoo8_27 => (simp only [List.getElem?_toArray, List.getElem?_cons_zero, List.getElem?_cons_succ]; rfl))
            go_simp
            refine Calls.mono (hcA w80 A80 c80 hln80) ?_
            rintro e w83 ⟨rfl, hb83⟩
            have hz10 := (show Below V.heap.size V w80 from hS10).size
            have hS11 : S w83 := (show Below V.heap.size V w80 from hS10).trans (hb83.mono hz10)
            refine hK.out _ _ hS11 (fun _ => ?_)
            clear hK K hln80 hb83
            (try simp only [Act.put, List.setIfInBounds_toArray, List.set_cons_zero, List.set_cons_succ])
            refine wpAnyH_take (i := 9) (oi := ?oi_9) (v := ?v_9) ?ho_9 ?h1_9 ?h2_9 ?h3_9 ?hq_9 (Or.inl ⟨?hw_9, ?hy_9⟩) ?hs_9 ?rest_9; (case h2_9 => kernel_rfl); (case h3_9 => kernel_rfl); (case ho_9 => (simp only [List.getElem?_toArray, List.getElem?_cons_zero, List.getElem?_cons_succ]; rfl)); (case h1_9 => kernel_rfl); (case hq_9 => exact fun _ _ _ h => h); (case hw_9 => rfl); (case hy_9 => (intro w' hSw; (try simp only [S] at hSw); go_simp; (try with_reducible rfl))); (case hs_9 => assumption); (try simp only [Act.put, List.setIfInBounds_toArray, List.set_cons_zero, List.set_cons_succ])
            refine wpAnyH_take (i := 10) (oi := ?oi_10) (v := ?v_10) ?ho_10 ?h1_10 ?h2_10 ?h3_10 ?hq_10 (Or.inl ⟨?hw_10, ?hy_10⟩) ?hs_10 ?rest_10; (case h2_10 => kernel_rfl); (case h3_10 => kernel_rfl); (case ho_10 => (simp only [List.getElem?_toArray, List.getElem?_cons_zero, List.getElem?_cons_succ]; rfl)); (case h1_10 => kernel_rfl); (case hq_10 => exact fun _ _ _ h => h); (case hw_10 => rfl); (case hy_10 => (intro w' hSw; (try simp only [S] at hSw); go_simp; (try with_reducible rfl))); (case hs_10 => assumption); (try simp only [Act.put, List.setIfInBounds_toArray, List.set_cons_zero, List.set_cons_succ])
            refine wpAnyH_take (i := 11) (oi := ?oi_11) (v := ?v_11) ?ho_11 ?h1_11 ?h2_11 ?h3_11 ?hq_11 (Or.inl ⟨?hw_11, ?hy_11⟩) ?hs_11 ?rest_11; (case h2_11 => kernel_rfl); (case h3_11 => kernel_rfl); (case ho_11 => (simp only [List.getElem?_toArray, List.getElem?_cons_zero, List.getElem?_cons_succ]; rfl)); (case h1_11 => kernel_rfl); (case hq_11 => exact fun _ _ _ h => h); (case hw_11 => rfl); (case hy_11 => (intro w' hSw; (try simp only [S] at hSw); go_simp; (try with_reducible rfl))); (case hs_11 => assumption); (try simp only [Act.put, List.setIfInBounds_toArray, List.set_cons_zero, List.set_cons_succ])
            refine wpAnyH_take (i := 12) (oi := ?oi_12) (v := ?v_12) ?ho_12 ?h1_12 ?h2_12 ?h3_12 ?hq_12 (Or.inl ⟨?hw_12, ?hy_12⟩) ?hs_12 ?rest_12; (case h2_12 => kernel_rfl); (case h3_12 => kernel_rfl); (case ho_12 => (simp only [List.getElem?_toArray, List.getElem?_cons_zero, List.getElem?_cons_succ]; rfl)); (case h1_12 => kernel_rfl); (case hq_12 => exact fun _ _ _ h => h); (case hw_12 => rfl); (case hy_12 => (intro w' hSw; (try simp only [S] at hSw); go_simp; (try with_reducible rfl))); (case hs_12 => assumption); (try simp only [Act.put, List.setIfInBounds_toArray, List.set_cons_zero, List.set_cons_succ])
            refine wpAnyH_take (i := 13) (oi := ?oi_13) (v := ?v_13) ?ho_13 ?h1_13 ?h2_13 ?h3_13 ?hq_13 (Or.inl ⟨?hw_13, ?hy_13⟩) ?hs_13 ?rest_13; (case h2_13 => kernel_rfl); (case h3_13 => kernel_rfl); (case ho_13 => (simp only [List.getElem?_toArray, List.getElem?_cons_zero, List.getElem?_cons_succ]; rfl)); (case h1_13 => kernel_rfl); (case hq_13 => exact fun _ _ _ h => h); (case hw_13 => rfl); (case hy_13 => (intro w' hSw; (try simp only [S] at hSw); go_simp; (try with_reducible rfl))); (case hs_13 => assumption); (try simp only [Act.put, List.setIfInBounds_toArray, List.set_cons_zero, List.set_cons_succ])
            refine wpAnyH_done (by kernel_rfl) ?_ _
            have HE := Lib.hid (show Below V.heap.size V _ from hS11)
            clear hS0 hS9 hS10 hS11 r12
            go_wp2_with fail
            go_meet
            exact ⟨rfl, rfl, HE.out⟩
        case step4 =>
          have hS1 : S (V.drew.alloc (.cells bc.toArray 45)) := (Below.refl _ V).drew.alloc (Nat.le_refl _) _
          have a79 : (V.drew.alloc (.cells bc.toArray 45)).heap[V.heap.size]? = some (.cells bc.toArray 45) := heap_alloc_new V.drew _
          go_simp
          refine hK.out _ _ hS1 (fun _ => ?_)
          clear hK K q0 q4
          (try simp only [Act.put, List.setIfInBounds_toArray, List.set_cons_zero, List.set_cons_succ])
          obtain ⟨U, hU⟩ : ∃ q, (V.alloc (.cells bc.toArray 45)).drew = q := ⟨_, rfl⟩
          have hU' : V.drew.alloc (.cells bc.toArray 45) = U := hU
          rw [hU'] at hS1 a79
          rw [hU]
          clear hU hU'
          have hzU := (show Below V.heap.size V U from hS1).size
          have hVU := (Array.getElem?_eq_some_iff.1 a79).1
          have hne : ∀ k, (Value.slice (some ⟨U.heap.size, 0, none⟩) 0 0).ownBlock = some k → k ≠ V.heap.size := fun k hk => by
            have hk' : some U.heap.size = some k := hk
            injection hk' with hk'
            omega
          have q0 := hs0 U
          refine wpAnyH_ready (rs := [0]) (by kernel_rfl) (by simp) (AllReadyH.cons (o := ?oo0_28) ?hoo0_28 (fun K hK => ?steponly28) AllReadyH.nil); (case hoo0_28 => (simp only [List.getElem?_toArray, List.getElem?_cons_zero, List.getElem?_cons_succ]; rfl))
          have hS2 : S (U.alloc (.cells #[] 45)) := (show Below V.heap.size V U from hS1).alloc hzU _
          have own1 := own_none' U V.heap.size 45 5 hzU
          have hx79 := bBlk ((Below.refl U.heap.size U).alloc (Nat.le_refl _) (.cells #[] 45)) hVU a79
          go_simp
          refine hK.out _ _ hS2 (fun _ => ?_)
          clear hK K q0
          (try simp only [Act.put, List.setIfInBounds_toArray, List.set_cons_zero, List.set_cons_succ])
          obtain ⟨U2, hU2⟩ : ∃ q, U.alloc (.cells #[] 45) = q := ⟨_, rfl⟩
          rw [hU2] at hS2 own1 hx79 ⊢
          clear hU2
          have hz2 := (show Below V.heap.size V U2 from hS2).size
          refine wpAnyH_ready (rs := [2]) (by kernel_rfl) (by simp) (AllReadyH.cons (o := ?oo2_29) ?hoo2_29 (fun K hK => ?steponly29) AllReadyH.nil); (case hoo2_29 => (simp only [List.getElem?_toArray, List.getElem?_cons_zero, List.getElem?_cons_succ]; rfl))
          refine step_app _ rfl (.tmp 75) (.tmp 76) 22 rfl (base := V.heap.size) Try.underlying22 elemLn rfl own1 rfl (hslV.below hS2) hopl (by simp only [maxLen]; omega) (by omega) hz2 ?_
          intro A77 c77 w77 hown77 hg77 hb77 hat77
          simp only [Nat.zero_add, List.nil_append] at hown77 ⊢
          have hS3 : S w77 := (show Below V.heap.size V U2 from hS2).trans hb77
          have hx9 := (Sl.new (n := 1) (sz := 5) ((hg77.block _ (Array.getElem?_eq_some_iff.1 hx79).1 (fun e => hne _ e.symm rfl)).trans hx79) (by simpa using hbc5))
          have HT := Lib.hid (And.intro hown77 (And.intro hx9 hS3))
          refine hK.out _ _ hS3 (fun _ => ?_)
          clear hK K hown77 hg77 hb77 hat77 own1 hS1 hS2 hS3 hx79 hx9 a79
          (try simp only [Act.put, List.setIfInBounds_toArray, List.set_cons_zero, List.set_cons_succ])
          obtain ⟨U9, hU9⟩ : ∃ q, w77 = q := ⟨_, rfl⟩
          rw [hU9] at HT ⊢
          clear hU9
          obtain ⟨hown77, hx79, hS9⟩ := HT.out
          clear HT
          have hz9 := (show Below V.heap.size V U9 from hS9).size
          refine wpAnyH_ready (rs := [5]) (by kernel_rfl) (by simp) (AllReadyH.cons (o := ?oo5_30) ?hoo5_30 (fun K hK => ?steponly30) AllReadyH.nil); (case hoo5_30 => (simp only [List.getElem?_toArray, List.getElem?_cons_zero, List.getElem?_cons_succ]; rfl))
          refine step_app _ rfl (.tmp 77) (.tmp 79) 22 rfl (base := V.heap.size) Try.underlying22 elemLn rfl hown77 rfl hx79 hobc (by simp only [maxLen]; omega) (by omega) hz9 ?_
          intro A80 c80 w80 hown80 hg80 hb80 hat80
          have hS10 : S w80 := (show Below V.heap.size V U9 from hS9).trans hb80
          have hln80 := hlA w80 A80 c80 hown80
          refine hK.out _ _ hS10 (fun _ => ?_)
          clear hK K hown77 hx79 hown80 hg80 hb80 hat80
          (try simp only [Act.put, List.setIfInBounds_toArray, List.set_cons_zero, List.set_cons_succ])
          refine wpAnyH_ready (rs := [8]) (by kernel_rfl) (by simp) (AllReadyH.cons (o := ?oo8_31) ?hoo8_31 (fun K hK => ?steponly31) AllReadyH.nil); (case hoo8_31 => (simp only [List.getElem?_toArray, List.getElem?_cons_zero, List.getElem?_cons_succ]; rfl))
          go_simp
          refine Calls.mono (hcA w80 A80 c80 hln80) ?_
          rintro e w83 ⟨rfl, hb83⟩
          have hz10 := (show Below V.heap.size V w80 from hS10).size
          have hS11 : S w83 := (show Below V.heap.size V w80 from hS10).trans (hb83.mono hz10)
          refine hK.out _ _ hS11 (fun _ => ?_)
          clear hK K hln80 hb83
          (try simp only [Act.put, List.setIfInBounds_toArray, List.set_cons_zero, List.set_cons_succ])
          refine wpAnyH_take (i := 9) (oi := ?oi_14) (v := ?v_14) ?ho_14 ?h1_14 ?h2_14 ?h3_14 ?hq_14 (Or.inl ⟨?hw_14, ?hy_14⟩) ?hs_14 ?rest_14; (case h2_14 => kernel_rfl); (case h3_14 => kernel_rfl); (case ho_14 => (simp only [List.getElem?_toArray, List.getElem?_cons_zero, List.getElem?_cons_succ]; rfl)); (case h1_14 => kernel_rfl); (case hq_14 => exact fun _ _ _ h => h); (case hw_14 => rfl); (case hy_14 => (intro w' hSw; (try simp only [S] at hSw); go_simp; (try with_reducible rfl))); (case hs_14 => assumption); (try simp only [Act.put, List.setIfInBounds_toArray, List.set_cons_zero, List.set_cons_succ])
          refine wpAnyH_take (i := 10) (oi := ?oi_15) (v := ?v_15) ?ho_15 ?h1_15 ?h2_15 ?h3_15 ?hq_15 (Or.inl ⟨?hw_15, ?hy_15⟩) ?hs_15 ?rest_15; (case h2_15 => kernel_rfl); (case h3_15 => kernel_rfl); (case ho_15 => (simp only [List.getElem?_toArray, List.getElem?_cons_zero, List.getElem?_cons_succ]; rfl)); (case h1_15 => kernel_rfl); (case hq_15 => exact fun _ _ _ h => h); (case hw_15 => rfl); (case hy_15 => (intro w' hSw; (try simp only [S] at hSw); go_simp; (try with_reducible rfl))); (case hs_15 => assumption); (try simp only [Act.put, List.setIfInBounds_toArray, List.set_cons_zero, List.set_cons_succ])
          refine wpAnyH_take (i := 11) (oi := ?oi_16) (v := ?v_16) ?ho_16 ?h1_16 ?h2_16 ?h3_16 ?hq_16 (Or.inl ⟨?hw_16, ?hy_16⟩) ?hs_16 ?rest_16; (case h2_16 => kernel_rfl); (case h3_16 => kernel_rfl); (case ho_16 => (simp only [List.getElem?_toArray, List.getElem?_cons_zero, List.getElem?_cons_succ]; rfl)); (case h1_16 => kernel_rfl); (case hq_16 => exact fun _ _ _ h => h); (case hw_16 => rfl); (case hy_16 => (intro w' hSw; (try simp only [S] at hSw); go_simp; (try with_reducible rfl))); (case hs_16 => assumption); (try simp only [Act.put, List.setIfInBounds_toArray, List.set_cons_zero, List.set_cons_succ])
          refine wpAnyH_take (i := 12) (oi := ?oi_17) (v := ?v_17) ?ho_17 ?h1_17 ?h2_17 ?h3_17 ?hq_17 (Or.inl ⟨?hw_17, ?hy_17⟩) ?hs_17 ?rest_17; (case h2_17 => kernel_rfl); (case h3_17 => kernel_rfl); (case ho_17 => (simp only [List.getElem?_toArray, List.getElem?_cons_zero, List.getElem?_cons_succ]; rfl)); (case h1_17 => kernel_rfl); (case hq_17 => exact fun _ _ _ h => h); (case hw_17 => rfl); (case hy_17 => (intro w' hSw; (try simp only [S] at hSw); go_simp; (try with_reducible rfl))); (case hs_17 => assumption); (try simp only [Act.put, List.setIfInBounds_toArray, List.set_cons_zero, List.set_cons_succ])
          refine wpAnyH_take (i := 13) (oi := ?oi_18) (v := ?v_18) ?ho_18 ?h1_18 ?h2_18 ?h3_18 ?hq_18 (Or.inl ⟨?hw_18, ?hy_18⟩) ?hs_18 ?rest_18; (case h2_18 => kernel_rfl); (case h3_18 => kernel_rfl); (case ho_18 => (simp only [List.getElem?_toArray, List.getElem?_cons_zero, List.getElem?_cons_succ]; rfl)); (case h1_18 => kernel_rfl); (case hq_18 => exact fun _ _ _ h => h); (case hw_18 => rfl); (case hy_18 => (intro w' hSw; (try simp only [S] at hSw); go_simp; (try with_reducible rfl))); (case hs_18 => assumption); (try simp only [Act.put, List.setIfInBounds_toArray, List.set_cons_zero, List.set_cons_succ])
          refine wpAnyH_done (by kernel_rfl) ?_ _
          have HE := Lib.hid (show Below V.heap.size V _ from hS11)
          clear hS0 hS9 hS10 hS11 r12
          go_wp2_with fail
          go_meet
          exact ⟨rfl, rfl, HE.out⟩
      case rest =>
      clear hcA hlA hsb y12 hti12 hobc hslV
      obtain ⟨rfl, rfl, hB19⟩ := hcut
      have hln1 := HV.out.1.nxt hB19
      have hcB' := hcB _ _ _ hln1
      have HV1 := Lib.hid (And.intro hln1 (And.intro (bNext HV.out.2.1 hB19) HV.out.2.2))
      clear HV hB19 hln1 hcB
      go_upto_region 20 with (fail)
      go_wp2_with fail
      refine Calls.mono hcB' ?_
      rintro e V2 ⟨rfl, hb20⟩
      clear hcB'
      have hln2 := HV1.out.1.nxt hb20
      have hsl2 := hln2.sl
      have HV2 := Lib.hid (And.intro hln2 (And.intro (bNext HV1.out.2.1 hb20) HV1.out.2.2))
      clear HV1 hb20 hln2
      obtain ⟨ec, bec, hec⟩ : ∃ ec : List Value, Try.prog.built 45 [(0, .int .i64 4)] = some ec.toArray ∧ ec = (⟨4, false, false, false, lz⟩ : LN).cells := ⟨_, by kernel_rfl, rfl⟩
      have hec5 : ec.length = 5 := by rw [hec]; rfl
      have hoec : ∀ u ∈ ec, u.oneCell' = true := by rw [hec]; intro u hu; simp only [LN.cells, lz, List.mem_cons, List.mem_nil_iff, or_false] at hu; rcases hu with rfl | rfl | rfl | rfl | rfl <;> rfl
      have hse := fun W => run_slice1 (P := Try.prog) (t := 22) lnZ Try.underlying22 (s := 5) rfl (by omega) (by omega) ec hec5 W
      have HEC := Lib.hid hec
      clear hec
      go_upto_region 21 with (fail)
      refine wp_region_lit ?_
      refine wpList_slice rfl 22 0 #[] rfl (by simp only [List.map_toArray, List.map_nil]; exact hs0 V2) ?_
      (try simp only [Act.put, List.setIfInBounds_toArray, List.set_cons_zero, List.set_cons_succ])
      iterate 3 (first | go_guarded | go_step)
      have own0 := own_none' V2 V2.heap.size 45 5 (Nat.le_refl _)
      have hbA : Below V2.heap.size V2 (V2.alloc (.cells #[] 45)) := (Below.refl _ _).alloc (Nat.le_refl _) _
      obtain ⟨U, hU⟩ : ∃ q, V2.alloc (.cells #[] 45) = q := ⟨_, rfl⟩
      rw [hU] at own0 hbA ⊢
      clear hU
      refine wpList_app _ rfl (.tmp 94) (.tmp 95) 22 rfl (base := V2.heap.size) Try.underlying22 elemLn rfl own0 rfl (hsl2.below hbA) hopl (by simp only [maxLen]; omega) (by omega) hbA.size ?_
      intro A96 c96 w96 hown96 hg96 hb96 hat96
      simp only [Nat.zero_add, List.nil_append] at hown96 ⊢
      have hbB := hbA.trans hb96
      clear own0 hg96 hb96 hat96 hbA
      (try simp only [Act.put, List.setIfInBounds_toArray, List.set_cons_zero, List.set_cons_succ])
      refine wpList_built rfl 45 #[(0, .const (.int .i64 4))] rfl (cs := ec.toArray) (by simp only [List.map_toArray, List.map_cons, List.map_nil]; exact bec) ?_
      (try simp only [Act.put, List.setIfInBounds_toArray, List.set_cons_zero, List.set_cons_succ])
      refine wpList_slice rfl 22 1 #[(0, .tmp 97)] rfl (by simp only [List.map_toArray, List.map_cons, List.map_nil]; exact hse w96) ?_
      (try simp only [Act.put, List.setIfInBounds_toArray, List.set_cons_zero, List.set_cons_succ])
      refine wpList_app _ rfl (.tmp 96) (.tmp 98) 22 rfl (base := V2.heap.size) Try.underlying22 elemLn rfl (hown96.alloc _) rfl (Sl.new (n := 1) (heap_alloc_new _ _) (by simpa using hec5)) hoec (by simp only [maxLen]; omega) (by omega) (by have := hbB.size; simp; omega) ?_
      intro A99 c99 w99 hown99 hg99 hb99 hat99
      have hb2 := (hbB.alloc hbB.size (.cells ec.toArray 45)).trans hb99
      have hcC' := hcC w99 A99 c99 (HV2.out.2.2 _ _ _ _ (by have := hown99; rw [HEC.out] at this; exact this))
      have hln3 := HV2.out.1.nxt hb2
      have HV3 := Lib.hid (And.intro hln3 (bNext HV2.out.2.1 hb2))
      clear hown99 hg99 hb99 hat99 hb2 hbB hown96 HV2 hln3 hcC bec hse
      (try simp only [Act.put, List.setIfInBounds_toArray, List.set_cons_zero, List.set_cons_succ])
      go_wp2_with fail
      refine Calls.mono hcC' ?_
      rintro e V4 ⟨rfl, hb21⟩
      clear hcC'
      have hln4 := HV3.out.1.nxt hb21
      have hcD' := hcD _ _ _ hln4
      have HV4 := Lib.hid (bNext HV3.out.2 hb21)
      clear HV3 hb21 hln4 hcD
      go_upto_region 22 with (fail)
      go_wp2_with fail
      refine Calls.mono hcD' ?_
      rintro e V5 ⟨rfl, hb22⟩
      clear hcD'
      have HV5 := Lib.hid (bNext HV4.out hb22)
      clear HV4 hb22
      have hwk := wakes20_any V5
      go_upto_region 23 with (fail)
      go_wp2_with fail
      refine Calls.mono hwk ?_
      rintro e V6 ⟨rfl, hb23⟩
      clear hwk
      have HV6 := Lib.hid (bNext HV5.out hb23)
      go_wp2_with fail
      go_ret
      exact Ret.mk (vbool (by simp)) HV6.out
set_option maxRecDepth 100000 in
theorem pagesCosts_walk {H : Type} {enc : TypeId × Value → H} {W : World} {base : Nat} {v0 v1 v2 : Value} {d0 d1 d2 : DataW H} {p0 p1 p2 : List MemPlace}
    (k0 : Value.okWide Try.prog W .any base 5 v0) (h0 : DataW.Trod enc Try.prog W 0 (fun _ => true) true 5 v0 d0 p0)
    (k1 : Value.okWide Try.prog W .any base 5 v1) (h1 : DataW.Trod enc Try.prog W 0 (fun _ => true) true 5 v1 d1 p1)
    (k2 : Value.okWide Try.prog W .any base 5 v2) (h2 : DataW.Trod enc Try.prog W 0 (fun _ => true) true 5 v2 d2 p2)
    : Calls Try.prog 6 #[v0, v1, v2] W fun e W' => e = .returned (.bool true) ∧ Below W.heap.size W W' := by
  obtain ⟨za, rfl, _, _, wa⟩ := open_int Try.underlying5 k0 h0
  obtain ⟨zb, rfl, _, _, wb⟩ := open_int Try.underlying5 k1 h1
  obtain ⟨zc, rfl, _, _, wc⟩ := open_int Try.underlying5 k2 h2
  have ha := wf_u8 wa
  have hb := wf_u8 wb
  have hc := wf_u8 wc
  exact costs_core ha.1 (by omega) hb.1 (by omega) hc.1 (by omega) W
end Go.Proofs.Ytdnpcplboohdpaa
