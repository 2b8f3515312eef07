/- The walk over PagesCosts. (s8/pgcosts.py writes it.) -/
import Derived.Test.YtdnpcplboohdpaaPgWakes
namespace Go.Proofs.Ytdnpcplboohdpaa
set_option linter.unusedSimpArgs false
set_option linter.unusedVariables false
open Go.RowKit Go.ChangeShapes Go.WideShapes Go.Sort

def lz : Value := .slice none 0 0
def ln0 : LN := ⟨1, false, false, false, lz⟩
/-- k lines, the last one with its marks -/
def pgL (j : Nat) (kd : Int) (f : Bool) : List LN := List.replicate j ln0 ++ [⟨kd, f, false, false, lz⟩]
def pt (b : Bool) (n : Int) : Int := if b then n else 0
theorem pgL_len (j : Nat) (kd : Int) (f : Bool) : (pgL j kd f).length = j + 1 := by simp [pgL]
theorem pgL_one {j : Nat} {kd : Int} {f : Bool} : ∀ x ∈ pgL j kd f, x.One := by
  intro x hx
  simp only [pgL, List.mem_append, List.mem_replicate, List.mem_singleton] at hx
  rcases hx with ⟨-, rfl⟩ | rfl <;> rfl
theorem pgL_kind {j : Nat} {kd : Int} {f : Bool} (hk : kd = 1 ∨ kd = 2) : ∀ x ∈ pgL j kd f, x.kind = 1 ∨ x.kind = 2 := by
  intro x hx
  simp only [pgL, List.mem_append, List.mem_replicate, List.mem_singleton] at hx
  rcases hx with ⟨-, rfl⟩ | rfl
  · exact .inl rfl
  · exact hk
theorem ej_past {l m : List LN} (h : ∀ x ∈ l, x.kind = 1 ∨ x.kind = 2) : l.length ≤ ejP (l ++ m) 0 := by
  rcases Nat.lt_or_ge (ejP (l ++ m) 0) l.length with hlt | hge
  · obtain ⟨x, hx, hej⟩ := ejP_at (l := l ++ m) (a := 0) (by rw [List.length_append]; omega)
    rw [List.getElem?_append_left hlt] at hx
    have := h x (List.mem_of_getElem? hx)
    unfold LN.ej at hej
    have h4 : x.kind = 4 := by simpa using hej
    omega
  · exact hge
theorem pgl_yes {j : Nat} {kd h : Int} {f : Bool} {m : List LN} (hk : kd = 1 ∨ kd = 2) (hj : (j : Int) + 1 ≤ h) : pgOk (pgL j kd f ++ m) 0 ((j + 1 : Nat) : Int) h = true := by
  have h1 := ej_past (m := m) (pgL_kind (j := j) (f := f) hk)
  rw [pgL_len] at h1
  unfold pgOk
  rw [Bool.and_eq_true]
  refine ⟨decide_eq_true ⟨by omega, by omega, by rw [List.length_append, pgL_len]; omega, by omega⟩, decide_eq_true ?_⟩
  show ((j + 1 : Nat) : Int) ≤ ((ejP (pgL j kd f ++ m) 0 : Nat) : Int)
  omega
theorem cost_beh {j : Nat} {kd h : Int} {f la : Bool} {d : Nat} (hk : kd = 1 ∨ kd = 2) (hj : (j : Int) + 1 + d = h) :
    costN (pgL j kd f ++ [⟨1, false, la, false, lz⟩]) 0 ((j + 1 : Nat) : Int) h = 10 * (d : Int) * d + pt f 150 + pt (decide (kd = 2)) 500 + pt la 150 := by
  unfold costN
  rw [if_pos (pgl_yes hk (by omega))]
  unfold price
  have e1 : (pgL j kd f ++ [(⟨1, false, la, false, lz⟩ : LN)])[(((j + 1 : Nat) : Int)).toNat]? = some ⟨1, false, la, false, lz⟩ := by
    rw [show (((j + 1 : Nat) : Int)).toNat = j + 1 from rfl, List.getElem?_append_right (by rw [pgL_len]; exact Nat.le_refl _), pgL_len, Nat.sub_self]; rfl
  have e2 : (pgL j kd f ++ [(⟨1, false, la, false, lz⟩ : LN)])[(((j + 1 : Nat) : Int)).toNat - 1]? = some ⟨kd, f, false, false, lz⟩ := by
    rw [show (((j + 1 : Nat) : Int)).toNat - 1 = j from rfl, List.getElem?_append_left (by rw [pgL_len]; omega), pgL, List.getElem?_append_right (by simp)]; simp
  rw [e1, e2]
  have e3 : (⟨1, false, la, false, lz⟩ : LN).ej = false := rfl
  simp only [e3, Bool.false_eq_true, if_false]
  unfold lack pt
  have e4 : h - (((j + 1 : Nat) : Int) - 0) = (d : Int) := by omega
  rw [e4]
  simp
  rcases hk with rfl | rfl <;> cases f <;> cases la <;> simp <;> omega
theorem cost_end {j : Nat} {kd h : Int} {f : Bool} {m : List LN} (hm : m = [] ∨ m = [⟨4, false, false, false, lz⟩]) : costN (pgL j kd f ++ m) 0 ((j + 1 : Nat) : Int) h = 0 := by
  unfold costN
  split
  · unfold price
    have e0 : (((j + 1 : Nat) : Int)).toNat = (pgL j kd f).length := by rw [pgL_len]; rfl
    rw [e0, List.getElem?_append_right (Nat.le_refl _), Nat.sub_self]
    rcases hm with rfl | rfl
    · rfl
    · simp only [List.getElem?_cons_zero]
      split
      · rename_i h1 h2
        injection h1 with h1
        subst h1
        rfl
      · rfl
  · rfl
theorem cost_not {j : Nat} {kd h : Int} {f : Bool} {m : List LN} (hh : h = j) : pgOk (pgL j kd f ++ m) 0 ((j + 1 : Nat) : Int) h = false := by
  unfold pgOk
  rw [decide_eq_false (by omega)]
  rfl
theorem lns_append (a b : List LN) : lns (a ++ b) = lns a ++ lns b := by simp [lns]
theorem own_last {w : World} {base q n c : Nat} {t : TypeId} {l : List LN} {x : LN} {j : Nat} (h : w.ownsRow base t 5 (.slice (some ⟨q, 0, none⟩) n c) n (lns (l ++ [x]))) (hl : l.length = j) (i : Nat) {v : Value} (hv : x.cells[i]? = some v) : w.cell? ⟨q, j * 5 + i, none⟩ = some v := by
  have := h.cells (g := q) rfl (j * 5 + i) v (by
    rw [lns_append, List.getElem?_append_right (by rw [lns_len, hl]; omega), lns_len, hl, Nat.add_sub_cancel_left]
    simpa [lns] using hv)
  rw [addr_add, Nat.zero_add] at this
  exact this
theorem lns_rep (j : Nat) : lns (List.replicate (j + 1) ln0) = lns (List.replicate j ln0) ++ ln0.cells := by
  rw [List.replicate_succ', lns_append]; simp [lns]
theorem rep_pgL (j : Nat) : List.replicate (j + 1) ln0 = pgL j 1 false := by rw [List.replicate_succ']; rfl
theorem set_first {j : Nat} {kd : Int} {f b : Bool} : (lns (pgL j kd f)).set (j * 5 + 1) (.bool b) = lns (pgL j kd b) := by
  unfold pgL
  rw [lns_append, lns_append, List.set_append_right _ _ (by rw [lns_len, List.length_replicate]; omega), lns_len, List.length_replicate, Nat.add_sub_cancel_left]
  rfl
theorem set_kind {j : Nat} {kd kd' : Int} {f : Bool} : (lns (pgL j kd f)).set (j * 5) (.int .i64 kd') = lns (pgL j kd' f) := by
  unfold pgL
  rw [lns_append, lns_append, List.set_append_right _ _ (by rw [lns_len, List.length_replicate]; omega), lns_len, List.length_replicate, Nat.sub_self]
  rfl
theorem elemLn : Elem Try.prog 45 5 40 := elem_of (z := .agg #[.int .i64 0, .bool false, .bool false, .bool false, .slice none 0 0]) (by kernel_rfl) (by simp [Value.cells]) (by omega)
theorem one_lns {l : List LN} (h : ∀ x ∈ l, x.One) : ∀ u ∈ lns l, u.oneCell' = true := by
  intro u hu
  obtain ⟨x, hx, hu⟩ := List.mem_flatMap.1 hu
  simp only [LN.cells, List.mem_cons, List.mem_nil_iff, or_false] at hu
  rcases hu with rfl | rfl | rfl | rfl | rfl
  · rfl
  · rfl
  · rfl
  · rfl
  · exact h x hx
theorem own_ln {w : World} {base : Nat} {A : Option Addr} {n c : Nat} {l : List LN} (h : w.ownsRow base 45 5 (.slice A n c) n (lns l)) (hl : l.length = n) (hw : ∀ x ∈ l, -9223372036854775808 ≤ x.kind ∧ x.kind ≤ 9223372036854775807) : LnAt w w.heap.size A n c l := by
  obtain ⟨A', c', e, hc, -⟩ := own_form h
  cases e
  exact ⟨hl, Sl.of_own h, hc, hw⟩
theorem pgL_wide {j : Nat} {kd : Int} {f : Bool} (hk : kd = 1 ∨ kd = 2) {m : List LN} (hm : ∀ x ∈ m, x.kind = 1 ∨ x.kind = 4) : ∀ x ∈ pgL j kd f ++ m, -9223372036854775808 ≤ x.kind ∧ x.kind ≤ 9223372036854775807 := by
  intro x hx
  rcases List.mem_append.1 hx with hx | hx
  · have := pgL_kind hk x hx; omega
  · have := hm x hx; omega
theorem own_lt {w : World} {base : Nat} {e : TypeId} {size n : Nat} {v : Value} {xs : List Value} (h : w.ownsRow base e size v n xs) : ∀ q, v.ownBlock = some q → q < w.heap.size := fun q hq => (h.lt q hq).2
theorem hs0 (W : World) : (Instr.buildSlice 22 0 #[]).run Try.prog W = .ok (.slice (some ⟨W.heap.size, 0, none⟩) 0 0) (W.alloc (.cells #[] 45)) := by
  go_simp
attribute [-go_sem] Builtin.append_
attribute [-go_sem] Instr.buildSlice
set_option maxHeartbeats 16000000 in
set_option maxRecDepth 100000 in
theorem costs_core {nv hv fv : Int} (n0 : 0 ≤ nv) (n1 : nv < 256) (h0 : 0 ≤ hv) (h1 : hv < 256) (f0 : 0 ≤ fv) (f1 : fv < 256) (w : World) : Calls Try.prog 6 #[.int .u8 nv, .int .u8 hv, .int .u8 fv] w (Ret w (.bool true)) := by
  obtain ⟨h, hh⟩ : ∃ h : Nat, 3 + hv % 18 = (h : Int) := ⟨(3 + hv % 18).toNat, by omega⟩
  have h3 : 3 ≤ h ∧ h ≤ 20 := by omega
  have hmod := Int.emod_lt_of_pos nv (show (0 : Int) < (h : Int) by omega)
  have hmod0 := Int.emod_nonneg nv (show (h : Int) ≠ 0 by omega)
  obtain ⟨j, hj⟩ : ∃ j : Nat, nv % (h : Int) = (j : Int) := ⟨(nv % (h : Int)).toNat, by omega⟩
  obtain ⟨d, hd⟩ : ∃ d : Nat, j + 1 + d = h := ⟨h - (j + 1), by omega⟩
  have e1 : IntKind.i64.wrap hv = hv := wrap_small _ (by omega) (by omega)
  have e2 : hv.tmod 18 = hv % 18 := Int.tmod_eq_emod_of_nonneg h0
  have e3 : IntKind.i64.wrap (hv % 18) = hv % 18 := wrap_small _ (by omega) (by omega)
  have e4 : IntKind.i64.wrap (3 + hv % 18) = h := by rw [hh]; exact wrap_small _ (by omega) (by omega)
  have e5 : IntKind.i64.wrap nv = nv := wrap_small _ (by omega) (by omega)
  have e6 : nv.tmod (h : Int) = (j : Int) := by rw [Int.tmod_eq_emod_of_nonneg n0, hj]
  have e7 : IntKind.i64.wrap (j : Int) = (j : Int) := wrap_small _ (by omega) (by omega)
  obtain ⟨k, hk⟩ : ∃ k : Nat, j + 1 = k := ⟨_, rfl⟩
  have e8 : IntKind.i64.wrap (1 + (j : Int)) = (k : Int) := by rw [wrap_small _ (by omega) (by omega)]; omega
  have hn0 : (h : Int) ≠ 0 := by omega
  have hnm : (h : Int) ≠ -1 := by omega
  have e9 : IntKind.i64.wrap ((h : Int) - (k : Int)) = (d : Int) := by rw [wrap_small _ (by omega) (by omega)]; omega
  have hd19 : d ≤ 19 := by omega
  have hdd : d * d ≤ 19 * 19 := Nat.mul_le_mul hd19 hd19
  obtain ⟨LK, hLK⟩ : ∃ q : Int, 10 * (d : Int) * (d : Int) = q := ⟨_, rfl⟩
  have hLK2 : 0 ≤ LK ∧ LK ≤ 3610 := by
    have : (d : Int) * (d : Int) = ((d * d : Nat) : Int) := by simp
    rw [← hLK, Int.mul_assoc, this]; omega
  have e10 : IntKind.i64.wrap (10 * (d : Int)) = 10 * (d : Int) := wrap_small _ (by omega) (by omega)
  have e11 : IntKind.i64.wrap (10 * (d : Int) * (d : Int)) = LK := by rw [hLK]; exact wrap_small _ (by omega) (by omega)
  have hk1 : 1 ≤ k ∧ k ≤ 20 := by omega
  have HD := Lib.hid (And.intro hh (And.intro hj (And.intro hd (And.intro hk hLK))))
  clear hh hj hd hk hLK hmod hmod0
  obtain ⟨ct, bt, hct⟩ : ∃ ct : List Value, Try.prog.built 45 [(0, .int .i64 1)] = some ct.toArray ∧ ct = ln0.cells := ⟨ln0.cells, by kernel_rfl, rfl⟩
  have ht5 : ct.length = 5 := by rw [hct]; rfl
  have hs1 := fun W => run_slice1 (P := Try.prog) (t := 22) lnZ Try.underlying22 (s := 5) rfl (by omega) (by omega) ct ht5 W
  have hone : ∀ u ∈ ct, u.oneCell' = true := by rw [hct]; intro u hu; simp only [LN.cells, ln0, lz, List.mem_cons, List.mem_nil_iff, or_false] at hu; rcases hu with rfl | rfl | rfl | rfl | rfl <;> rfl
  have HCT := Lib.hid hct
  clear hct
  go_enter Try.func6, Try.ntmps6
  go_wp2_with fail
  go_loopw [9, 10] (fun s9 s10 wr => ∃ (i : Nat) (A : Option Addr) (c : Nat), i ≤ k ∧ s9 = .slice A i c ∧ s10 = .int .i64 i ∧ wr.ownsRow w.heap.size 45 5 (.slice A i c) i (lns (List.replicate i ln0)) ∧ Below w.heap.size w wr) (fun _ i _ => k - (intOf i).toNat)
  case atStart => exact ⟨0, none, 0, by omega, rfl, rfl, World.ownsRow_nil _ _ _ _, Below.refl _ _⟩
  case round =>
    obtain ⟨i, A, c, hi, rfl, rfl, hown, hb⟩ := hrel
    by_cases hlt : i < k
    · have hlt' : (i : Int) < (k : Int) := by omega
      have g1 : IntKind.i64.wrap ((i : Int) + 1) = ((i + 1 : Nat) : Int) := by rw [wrap_small _ (by omega) (by omega)]; omega
      go_upto_region 7 with (fail)
      refine wp_region_lit ?_
      iterate 3 (first | go_guarded | go_step)
      refine wpList_built rfl 45 #[(0, .const (.int .i64 1))] rfl (cs := ct.toArray) (by simp only [List.map_toArray, List.map_cons, List.map_nil]; exact bt) ?_
      (try simp only [Act.put, List.setIfInBounds_toArray, List.set_cons_zero, List.set_cons_succ])
      refine wpList_slice rfl 22 1 #[(0, .tmp 36)] rfl (by simp only [List.map_toArray, List.map_cons, List.map_nil]; exact hs1 wr) ?_
      (try simp only [Act.put, List.setIfInBounds_toArray, List.set_cons_zero, List.set_cons_succ])
      refine wpList_app _ rfl (.tmp 35) (.tmp 37) 22 rfl (base := w.heap.size) Try.underlying22 elemLn rfl (hown.alloc _) rfl (Sl.new (n := 1) (heap_alloc_new _ _) (by simpa using ht5)) hone (by simp only [maxLen]; omega) (by omega) (by have := hb.size; simp; omega) ?_
      intro A38 c38 w38 hown38 hg38 hb38 hat38
      have hb2 := (hb.alloc hb.size (.cells ct.toArray 45)).trans hb38
      have HR := Lib.hid (And.intro hown38 hb2)
      clear hown38 hg38 hb38 hat38 hb2 hown hb
      (try simp only [Act.put, List.setIfInBounds_toArray, List.set_cons_zero, List.set_cons_succ])
      go_wp2_with fail
      go_roundw
      case rel =>
        refine ⟨i + 1, A38, c38, by omega, rfl, by go_num, ?_, HR.out.2⟩
        rw [lns_rep, ← HCT.out]
        exact HR.out.1
      case measure => simp [intOf]; omega
    · obtain rfl : i = k := by omega
      have hlt' : ¬ (i : Int) < (i : Int) := by omega
      obtain ⟨q, cap, hA, hq0⟩ : ∃ q cap, A = some ⟨q, 0, none⟩ ∧ w.heap.size ≤ q := by
        rcases hown.2 with ⟨e, h0⟩ | ⟨g, cap, cur, e, hg, -⟩
        · omega
        · injection e with e1
          exact ⟨g, cap, e1, hg⟩
      subst hA
      have hownL : wr.ownsRow w.heap.size 45 5 (.slice (some ⟨q, 0, none⟩) i c) i (lns (pgL j 1 false)) := by
        have := hown
        rw [← HD.out.2.2.2.1, rep_pgL] at this
        rw [← HD.out.2.2.2.1]
        exact this
      have hqw := (hown.lt q rfl).2
      clear hown
      have g1 : IntKind.i64.wrap ((i : Int) - 1) = (j : Int) := by have := HD.out.2.2.2.1; rw [wrap_small _ (by omega) (by omega)]; omega
      have hji : j < i := by have := HD.out.2.2.2.1; omega
      have hjn : (0 : Int) ≤ (j : Int) := by omega
      have hji' : (j : Int) < (i : Int) := by omega
      go_upto_if 49 with (fail)
      generalize (bits BinOp.and IntKind.u8 fv 1 == 1) = b1
      go_cut [11] from 49 to 57 (fun s11 wx => s11 = .int .i64 (LK + pt b1 150) ∧ wx.ownsRow w.heap.size 45 5 (.slice (some ⟨q, 0, none⟩) i c) i (lns (pgL j 1 b1)) ∧ Below w.heap.size w wx)
      case first =>
        cases b1
        · go_wp2_with fail
          go_meet
          exact ⟨by simp [pt], hownL, hb⟩
        · have k1 : wr.cell? ⟨q, j * 5 + 1, none⟩ = some (.bool false) := own_last hownL (by simp) 1 rfl
          have k2 : wr.frozen? ⟨q, j * 5 + 1, none⟩ = false := hownL.frozenAt _
          have g2 : IntKind.i64.wrap (LK + 150) = LK + 150 := wrap_small _ (by omega) (by omega)
          have HO := Lib.hid (And.intro hownL hb)
          clear hownL hb
          go_wp2_with fail
          go_meet
          refine ⟨by simp [pt], ?_, ?_⟩
          · have := (HO.out.1.stored (j * 5 + 1) (.bool true)).1
            rw [set_first] at this
            exact this
          · exact HO.out.2.setCell (p := ⟨q, j * 5 + 1, none⟩) (by exact hq0) _
      case rest =>
      clear hownL hb hqw
      obtain ⟨rfl, hownL, hb⟩ := hcut
      obtain ⟨L1, hL1⟩ : ∃ q, LK + pt b1 150 = q := ⟨_, rfl⟩
      have hL1b : 0 ≤ L1 ∧ L1 ≤ 4000 := by rw [← hL1]; unfold pt; split <;> omega
      rw [hL1]
      have HL1 := Lib.hid hL1
      clear hL1
      go_upto_if 59 with (fail)
      generalize (bits BinOp.and IntKind.u8 fv 2 == 2) = b2
      go_cut [11] from 59 to 67 (fun s11 wx => s11 = .int .i64 (L1 + pt b2 500) ∧ wx.ownsRow w.heap.size 45 5 (.slice (some ⟨q, 0, none⟩) i c) i (lns (pgL j (1 + pt b2 1) b1)) ∧ Below w.heap.size w wx)
      case first =>
        cases b2
        · go_wp2_with fail
          go_meet
          exact ⟨by simp [pt], hownL, hb⟩
        · have k1 : wc.cell? ⟨q, j * 5, none⟩ = some (.int .i64 1) := own_last hownL (by simp) 0 rfl
          have k2 : wc.frozen? ⟨q, j * 5, none⟩ = false := hownL.frozenAt _
          have g2 : IntKind.i64.wrap (L1 + 500) = L1 + 500 := wrap_small _ (by omega) (by omega)
          have HO := Lib.hid (And.intro hownL hb)
          clear hownL hb
          go_wp2_with fail
          go_meet
          refine ⟨by simp [pt], ?_, ?_⟩
          · have := (HO.out.1.stored (j * 5) (.int .i64 2)).1
            rw [set_kind] at this
            exact this
          · exact HO.out.2.setCell (p := ⟨q, j * 5, none⟩) (by exact hq0) _
      case rest =>
      clear hownL hb
      obtain ⟨rfl, hownL, hb⟩ := hcut
      obtain ⟨L2, hL2⟩ : ∃ q, L1 + pt b2 500 = q := ⟨_, rfl⟩
      have hL2b : 0 ≤ L2 ∧ L2 ≤ 4500 := by rw [← hL2]; unfold pt; split <;> omega
      rw [hL2]
      have HL2 := Lib.hid hL2
      clear hL2
      obtain ⟨kd, hkd⟩ : ∃ q, 1 + pt b2 1 = q := ⟨_, rfl⟩
      rw [hkd] at hownL
      have HKD := Lib.hid hkd
      clear hkd
      have hti : (Try.prog.info? 45).map (·.size) = some ct.toArray.size := by rw [List.size_toArray, ht5]; exact ln_size
      have hlz := lnZ
      obtain ⟨zl, hzl⟩ : ∃ q : Array Value, #[.int .i64 0, .bool false, .bool false, .bool false, .slice none 0 0] = q := ⟨_, rfl⟩
      have hzc : zl.size = ct.toArray.size := by rw [← hzl]; simp [ht5]
      have hoc : ct.toArray.all (·.oneCell') = true := all_oneCell_toArray hone
      rw [hzl] at hlz
      clear hzl
      obtain ⟨Y, hY, y12, bY⟩ := newRow wc zl ct.toArray 45
      have hownY := own_below hownL bY
      have hbY := hb.trans (bY.mono hb.size)
      have hqg : q < wc.heap.size := (hownL.lt q rfl).2
      have hwg : w.heap.size ≤ wc.heap.size := hb.size
      clear hownL hb bY
      go_upto_region 15 with (fail)
      refine wp_region_lit ?_
      refine wpList_built rfl 45 #[(0, .const (.int .i64 1))] rfl (cs := ct.toArray) (by simp only [List.map_toArray, List.map_cons, List.map_nil]; exact bt) ?_
      (try simp only [Act.put, List.setIfInBounds_toArray, List.set_cons_zero, List.set_cons_succ])
      refine wpList_new rfl hlz rfl ?_
      (try simp only [Act.put, List.setIfInBounds_toArray, List.set_cons_zero, List.set_cons_succ])
      refine wpList_store_row rfl 45 (.tmp 12) (.tmp 67) rfl _ ct.toArray rfl rfl _ zl (heap_alloc_new _ _) hti hzc hoc ?_
      rw [hY]
      clear hY
      obtain ⟨g, hg⟩ : ∃ q, wc.heap.size = q := ⟨_, rfl⟩
      rw [hg] at y12 hqg hwg ⊢
      clear hg
      go_upto_if 70 with (fail)
      generalize (bits BinOp.and IntKind.u8 fv 4 == 4) = b3
      go_cut [11] from 70 to 73 (fun s11 wx => s11 = .int .i64 (L2 + pt b3 150) ∧ wx.ownsRow w.heap.size 45 5 (.slice (some ⟨q, 0, none⟩) i c) i (lns (pgL j kd b1)) ∧ Below w.heap.size w wx ∧ wx.heap[g]? = some (.cells (⟨1, false, b3, false, lz⟩ : LN).cells.toArray 45))
      case first =>
        rw [HCT.out] at y12
        cases b3
        · have HO := Lib.hid y12
          clear y12
          go_wp2_with fail
          go_meet
          exact ⟨by simp [pt], hownY, hbY, HO.out⟩
        · have k1 : Y.cell? ⟨g, 2, none⟩ = some (.bool false) := blk_cell y12 rfl
          have k2 : Y.frozen? ⟨g, 2, none⟩ = false := blk_frozen y12 2
          have g2 : IntKind.i64.wrap (L2 + 150) = L2 + 150 := wrap_small _ (by omega) (by omega)
          have HO := Lib.hid (And.intro hownY (And.intro hbY y12))
          clear hownY hbY y12
          go_wp2_with fail
          go_meet
          obtain ⟨h1, h2, h3⟩ := HO.out
          refine ⟨by simp [pt], ?_, h2.setCell (p := ⟨g, 2, none⟩) (by exact hwg) _, blk_set h3 2 (.bool true)⟩
          refine ⟨h1.1, ?_⟩
          rcases h1.2 with h | ⟨q', cap', cur, e, h4, h5, h6⟩
          · exact .inl h
          · exact .inr ⟨q', cap', cur, e, h4, blk_far h5 _ (by injection e with e1; injection e1 with e1; injection e1 with e1; subst e1; show q ≠ g; omega), h6⟩
      case rest =>
      clear hownY hbY y12
      obtain ⟨rfl, hownL, hb, y12⟩ := hcut
      rename World => V
      obtain ⟨LT, hLT⟩ : ∃ q, L2 + pt b3 150 = q := ⟨_, rfl⟩
      rw [hLT]
      have hkd12 : kd = 1 ∨ kd = 2 := by have := HKD.out; rw [← this]; cases b2 <;> simp [pt]
      have hkd2 : decide (kd = 2) = b2 := by have := HKD.out; rw [← this]; cases b2 <;> simp [pt]
      obtain ⟨PL, hPL⟩ : ∃ q, pgL j kd b1 = q := ⟨_, rfl⟩
      have hPln : PL.length = i := by rw [← hPL, pgL_len]; exact HD.out.2.2.2.1
      have hPone : ∀ x ∈ PL, x.One := by rw [← hPL]; exact pgL_one
      have hcA : ∀ W A c, LnAt W W.heap.size A (i + 1) c (PL ++ [⟨1, false, b3, false, lz⟩]) → Calls Try.prog 11 #[.slice A (i + 1) c, .int .i64 0, .int .i64 (i : Int), .int .i64 (h : Int)] W (Ret W (.tuple #[.int .i64 LT, .bool true])) := fun W A c hl => by
        have := cost_any (a := 0) (b := (i : Int)) (h := (h : Int)) W hl (fun x hx => by
          rcases List.mem_append.1 hx with hx | hx
          · exact hPone x hx
          · obtain rfl := List.mem_singleton.1 hx; rfl) (by omega) (by omega)
        have e1 := HD.out.2.2.2.1
        have e2 := HD.out.2.2.1
        rw [← hPL, ← e1, cost_beh (d := d) hkd12 (by omega), pgl_yes hkd12 (by omega), HD.out.2.2.2.2, hkd2, HL1.out, HL2.out, hLT] at this
        rw [← e1]
        exact this
      have hcC : ∀ W A c, LnAt W W.heap.size A (i + 1) c (PL ++ [⟨4, false, false, false, lz⟩]) → Calls Try.prog 11 #[.slice A (i + 1) c, .int .i64 0, .int .i64 (i : Int), .int .i64 (h : Int)] W (Ret W (.tuple #[.int .i64 0, .bool true])) := fun W A c hl => by
        have := cost_any (a := 0) (b := (i : Int)) (h := (h : Int)) W hl (fun x hx => by
          rcases List.mem_append.1 hx with hx | hx
          · exact hPone x hx
          · obtain rfl := List.mem_singleton.1 hx; rfl) (by omega) (by omega)
        have e1 := HD.out.2.2.2.1
        have e2 := HD.out.2.2.1
        rw [← hPL, ← e1, cost_end (.inr rfl), pgl_yes hkd12 (by omega)] at this
        rw [← e1]
        exact this
      have hcB : ∀ W A c, LnAt W W.heap.size A i c PL → Calls Try.prog 11 #[.slice A i c, .int .i64 0, .int .i64 (i : Int), .int .i64 (h : Int)] W (Ret W (.tuple #[.int .i64 0, .bool true])) := fun W A c hl => by
        have := cost_any (a := 0) (b := (i : Int)) (h := (h : Int)) W hl hPone (by omega) (by omega)
        have e1 := HD.out.2.2.2.1
        have e2 := HD.out.2.2.1
        have e3 := cost_end (j := j) (kd := kd) (f := b1) (h := (h : Int)) (m := []) (.inl rfl)
        have e4 := pgl_yes (j := j) (kd := kd) (f := b1) (h := (h : Int)) (m := []) hkd12 (by omega)
        rw [List.append_nil, hPL, e1] at e3 e4
        rw [e3, e4] at this
        exact this
      obtain ⟨zD, hzD⟩ : ∃ q, costN PL 0 (i : Int) (j : Int) = q := ⟨_, rfl⟩
      have hcD : ∀ W A c, LnAt W W.heap.size A i c PL → Calls Try.prog 11 #[.slice A i c, .int .i64 0, .int .i64 (i : Int), .int .i64 (j : Int)] W (Ret W (.tuple #[.int .i64 zD, .bool false])) := fun W A c hl => by
        have := cost_any (a := 0) (b := (i : Int)) (h := (j : Int)) W hl hPone (by omega) (by omega)
        have e1 := HD.out.2.2.2.1
        have e4 := cost_not (j := j) (kd := kd) (f := b1) (h := (j : Int)) (m := []) rfl
        rw [List.append_nil, hPL, e1] at e4
        rw [hzD, e4] at this
        exact this
      rw [hPL] at hownL
      have hPw : ∀ m : List LN, (∀ x ∈ m, x.kind = 1 ∨ x.kind = 4) → ∀ x ∈ PL ++ m, -9223372036854775808 ≤ x.kind ∧ x.kind ≤ 9223372036854775807 := fun m hm => by rw [← hPL]; exact pgL_wide hkd12 hm
      have hlnV : LnAt V V.heap.size (some ⟨q, 0, none⟩) i c PL := own_ln hownL hPln (by have := hPw [] (by simp); rw [List.append_nil] at this; exact this)
      have hlA : ∀ W A c', W.ownsRow V.heap.size 45 5 (.slice A (i + 1) c') (i + 1) (lns PL ++ (⟨1, false, b3, false, lz⟩ : LN).cells) → LnAt W W.heap.size A (i + 1) c' (PL ++ [⟨1, false, b3, false, lz⟩]) := fun W A c' ho =>
        own_ln (l := PL ++ [⟨1, false, b3, false, lz⟩]) (by rw [lns_append]; simpa [lns] using ho) (by simp [hPln]) (hPw _ (by simp))
      have hlC : ∀ B W A c', W.ownsRow B 45 5 (.slice A (i + 1) c') (i + 1) (lns PL ++ (⟨4, false, false, false, lz⟩ : LN).cells) → LnAt W W.heap.size A (i + 1) c' (PL ++ [⟨4, false, false, false, lz⟩]) := fun B W A c' ho =>
        own_ln (l := PL ++ [⟨4, false, false, false, lz⟩]) (by rw [lns_append]; simpa [lns] using ho) (by simp [hPln]) (hPw _ (by simp))
      have hopl : ∀ u ∈ lns PL, u.oneCell' = true := one_lns hPone
      clear hPone hPw hzD hLT hkd2 hkd12 HKD HL1 HL2 hPL hownL
      obtain ⟨bc, hbc⟩ : ∃ q, (⟨1, false, b3, false, lz⟩ : LN).cells = q := ⟨_, rfl⟩
      have hbc5 : bc.length = 5 := by rw [← hbc]; rfl
      have hobc : ∀ u ∈ bc, u.oneCell' = true := by rw [← hbc]; intro u hu; simp only [LN.cells, lz, List.mem_cons, List.mem_nil_iff, or_false] at hu; rcases hu with rfl | rfl | rfl | rfl | rfl <;> rfl
      rw [hbc] at y12
      simp only [hbc] at hlA
      clear hbc
      have hsb := fun W => run_slice1 (P := Try.prog) (t := 22) lnZ Try.underlying22 (s := 5) rfl (by omega) (by omega) bc hbc5 W
      have hslV := hlnV.sl
      have hti12 : (Try.prog.info? 45).map (·.size) = some bc.length := by rw [hbc5]; exact ln_size
      have hgV : g < V.heap.size := (Array.getElem?_eq_some_iff.1 y12).1
      have HV := Lib.hid (And.intro hlnV (And.intro hb hlC))
      clear hlnV hb hlC hs1 bt
      go_upto_region 19 with (fail)
      go_cut [13, 14] from 74 to 85 (fun s13 s14 wx => s13 = .int .i64 LT ∧ s14 = .bool true ∧ Below V.heap.size V wx)
      case first =>
        clear hcB hcC hcD HV
        let S : World → Prop := fun w' => Below V.heap.size V w'
        have hS0 : S V.drew := (Below.refl _ _).drew
        have r12 : ∀ w', S w' → w'.rangeAt g 0 bc := fun w' h => bRange h hgV (range_blk y12)
        clear y12
        refine wp_region_held (S := S) (by kernel_rfl) ?_
        change wpAnyH _ _ _ _ S _ _ _ V.drew
        refine wpAnyH_take (i := 1) (oi := ?oi_25) (v := ?v_25) ?ho_25 ?h1_25 ?h2_25 ?h3_25 ?hq_25 (Or.inl ⟨?hw_25, ?hy_25⟩) ?hs_25 ?rest_25; (case h2_25 => kernel_rfl); (case h3_25 => kernel_rfl); (case ho_25 => (simp only [List.getElem?_toArray, List.getElem?_cons_zero, List.getElem?_cons_succ]; rfl)); (case h1_25 => kernel_rfl); (case hq_25 => exact fun _ _ _ h => h); (case hw_25 => rfl); (case hy_25 => (intro w' hSw; (try simp only [S] at hSw); go_simp; (try with_reducible rfl))); (case hs_25 => assumption); (try simp only [Act.put, List.setIfInBounds_toArray, List.set_cons_zero, List.set_cons_succ])
        refine wpAnyH_take (i := 6) (oi := ?oi_26) (v := ?v_26) ?ho_26 ?h1_26 ?h2_26 ?h3_26 ?hq_26 (Or.inl ⟨?hw_26, ?hy_26⟩) ?hs_26 ?rest_26; (case h2_26 => kernel_rfl); (case h3_26 => kernel_rfl); (case ho_26 => (simp only [List.getElem?_toArray, List.getElem?_cons_zero, List.getElem?_cons_succ]; rfl)); (case h1_26 => kernel_rfl); (case hq_26 => exact fun _ _ _ h => h); (case hw_26 => rfl); (case hy_26 => (intro w' hSw; (try simp only [S] at hSw); go_simp; (try with_reducible rfl))); (case hs_26 => assumption); (try simp only [Act.put, List.setIfInBounds_toArray, List.set_cons_zero, List.set_cons_succ])
        refine wpAnyH_take (i := 7) (oi := ?oi_27) (v := ?v_27) ?ho_27 ?h1_27 ?h2_27 ?h3_27 ?hq_27 (Or.inl ⟨?hw_27, ?hy_27⟩) ?hs_27 ?rest_27; (case h2_27 => kernel_rfl); (case h3_27 => kernel_rfl); (case ho_27 => (simp only [List.getElem?_toArray, List.getElem?_cons_zero, List.getElem?_cons_succ]; rfl)); (case h1_27 => kernel_rfl); (case hq_27 => exact fun _ _ _ h => h); (case hw_27 => rfl); (case hy_27 => (intro w' hSw; (try simp only [S] at hSw); go_simp; (try with_reducible rfl))); (case hs_27 => assumption); (try simp only [Act.put, List.setIfInBounds_toArray, List.set_cons_zero, List.set_cons_succ])
        refine wpAnyH_take (i := 3) (oi := ?oi_43) (v := ?v_43) ?ho_43 ?h1_43 ?h2_43 ?h3_43 ?hq_43 (Or.inl ⟨?hw_43, ?hy_43⟩) ?hs_43 ?rest_43; (case h2_43 => kernel_rfl); (case h3_43 => kernel_rfl); (case ho_43 => (simp only [List.getElem?_toArray, List.getElem?_cons_zero, List.getElem?_cons_succ]; rfl)); (case h1_43 => kernel_rfl); (case hq_43 => exact fun _ _ _ h => h); (case hw_43 => rfl); (case hy_43 => (intro w' hSw; refine exec_load_row (x := .tmp 12) ?_ ?_ (r12 w' hSw) Try.underlying45 ?_ hti12 <;> rfl)); (case hs_43 => assumption); (try simp only [Act.put, List.setIfInBounds_toArray, List.set_cons_zero, List.set_cons_succ])
        have q0 := hs0 V.drew
        have q4 := hsb V.drew
        refine wpAnyH_ready (rs := [0, 4]) (by kernel_rfl) (by simp) (AllReadyH.cons (o := ?oo0_44) ?hoo0_44 (fun K hK => ?step0) (AllReadyH.cons (o := ?oo4_44) ?hoo4_44 (fun K hK => ?step4) AllReadyH.nil)); (case hoo0_44 => (simp only [List.getElem?_toArray, List.getElem?_cons_zero, List.getElem?_cons_succ]; rfl)); (case hoo4_44 => (simp only [List.getElem?_toArray, List.getElem?_cons_zero, List.getElem?_cons_succ]; rfl))
        case step0 =>
          clear q4
          have hS1 : S (V.drew.alloc (.cells #[] 45)) := (Below.refl _ V).drew.alloc (Nat.le_refl _) _
          have own0 := own_none' V.drew V.heap.size 45 5 (Nat.le_refl _)
          go_simp
          refine hK.out _ _ hS1 (fun _ => ?_)
          clear hK K q0
          (try simp only [Act.put, List.setIfInBounds_toArray, List.set_cons_zero, List.set_cons_succ])
          obtain ⟨U, hU⟩ : ∃ q, (V.alloc (.cells #[] 45)).drew = q := ⟨_, rfl⟩
          have hU' : V.drew.alloc (.cells #[] 45) = U := hU
          rw [hU'] at hS1 own0
          rw [hU]
          clear hU hU'
          have hzU := (show Below V.heap.size V U from hS1).size
          have q4 := hsb U
          refine wpAnyH_ready (rs := [2, 4]) (by kernel_rfl) (by simp) (AllReadyH.cons (o := ?oo2_45) ?hoo2_45 (fun K hK => ?stepX2) (AllReadyH.cons (o := ?oo4_45) ?hoo4_45 (fun K hK => ?stepX4) AllReadyH.nil)); (case hoo2_45 => (simp only [List.getElem?_toArray, List.getElem?_cons_zero, List.getElem?_cons_succ]; rfl)); (case hoo4_45 => (simp only [List.getElem?_toArray, List.getElem?_cons_zero, List.getElem?_cons_succ]; rfl))
          case stepX2 =>
            clear q4
            refine step_app _ rfl (.tmp 75) (.tmp 76) 22 rfl (base := V.heap.size) Try.underlying22 elemLn rfl own0 rfl (hslV.below hS1) hopl (by simp only [maxLen]; omega) (by omega) hzU ?_
            intro A77 c77 w77 hown77 hg77 hb77 hat77
            simp only [Nat.zero_add, List.nil_append] at hown77 ⊢
            have hS2 : S w77 := (show Below V.heap.size V U from hS1).trans hb77
            have hz7 := (show Below V.heap.size V w77 from hS2).size
            refine hK.out _ _ hS2 (fun _ => ?_)
            clear hK K
            (try simp only [Act.put, List.setIfInBounds_toArray, List.set_cons_zero, List.set_cons_succ])
            have q4 := hsb w77
            refine wpAnyH_ready (rs := [4]) (by kernel_rfl) (by simp) (AllReadyH.cons (o := ?oo4_46) ?hoo4_46 (fun K hK => ?steponly46) AllReadyH.nil); (case hoo4_46 => (simp only [List.getElem?_toArray, List.getElem?_cons_zero, List.getElem?_cons_succ]; rfl))
            have hS3 : S (w77.alloc (.cells bc.toArray 45)) := (show Below V.heap.size V w77 from hS2).alloc hz7 _
            have HT := Lib.hid (And.intro (hown77.alloc (.cells bc.toArray 45)) (And.intro (Sl.new (n := 1) (sz := 5) (heap_alloc_new w77 (.cells bc.toArray 45)) (by simpa using hbc5)) hS3))
            go_simp
            refine hK.out _ _ hS3 (fun _ => ?_)
            clear hK K q4 hown77 hg77 hb77 hat77 own0 hS1 hS2 hS3
            (try simp only [Act.put, List.setIfInBounds_toArray, List.set_cons_zero, List.set_cons_succ])
            obtain ⟨U9, hU9⟩ : ∃ q, w77.alloc (.cells bc.toArray 45) = q := ⟨_, rfl⟩
            rw [hU9] at HT ⊢
            clear hU9
            obtain ⟨hown77, hx79, hS9⟩ := HT.out
            clear HT
            have hz9 := (show Below V.heap.size V U9 from hS9).size
            refine wpAnyH_ready (rs := [5]) (by kernel_rfl) (by simp) (AllReadyH.cons (o := ?oo5_47) ?hoo5_47 (fun K hK => ?steponly47) AllReadyH.nil); (case hoo5_47 => (simp only [List.getElem?_toArray, List.getElem?_cons_zero, List.getElem?_cons_succ]; rfl))
            refine step_app _ rfl (.tmp 77) (.tmp 79) 22 rfl (base := V.heap.size) Try.underlying22 elemLn rfl hown77 rfl hx79 hobc (by simp only [maxLen]; omega) (by omega) hz9 ?_
            intro A80 c80 w80 hown80 hg80 hb80 hat80
            have hS10 : S w80 := (show Below V.heap.size V U9 from hS9).trans hb80
            have hln80 := hlA w80 A80 c80 hown80
            refine hK.out _ _ hS10 (fun _ => ?_)
            clear hK K hown77 hx79 hown80 hg80 hb80 hat80
            (try simp only [Act.put, List.setIfInBounds_toArray, List.set_cons_zero, List.set_cons_succ])
            refine wpAnyH_ready (rs := [8]) (by kernel_rfl) (by simp) (AllReadyH.cons (o := ?oo8_48) ?hoo8_48 (fun K hK => ?steponly48) AllReadyH.nil); (case hoo8_48 => (simp only [List.getElem?_toArray, List.getElem?_cons_zero, List.getElem?_cons_succ]; rfl))
            go_simp
            refine Calls.mono (hcA w80 A80 c80 hln80) ?_
            rintro e w83 ⟨rfl, hb83⟩
            have hz10 := (show Below V.heap.size V w80 from hS10).size
            have hS11 : S w83 := (show Below V.heap.size V w80 from hS10).trans (hb83.mono hz10)
            refine hK.out _ _ hS11 (fun _ => ?_)
            clear hK K hln80 hb83
            (try simp only [Act.put, List.setIfInBounds_toArray, List.set_cons_zero, List.set_cons_succ])
            refine wpAnyH_take (i := 9) (oi := ?oi_28) (v := ?v_28) ?ho_28 ?h1_28 ?h2_28 ?h3_28 ?hq_28 (Or.inl ⟨?hw_28, ?hy_28⟩) ?hs_28 ?rest_28; (case h2_28 => kernel_rfl); (case h3_28 => kernel_rfl); (case ho_28 => (simp only [List.getElem?_toArray, List.getElem?_cons_zero, List.getElem?_cons_succ]; rfl)); (case h1_28 => kernel_rfl); (case hq_28 => exact fun _ _ _ h => h); (case hw_28 => rfl); (case hy_28 => (intro w' hSw; (try simp only [S] at hSw); go_simp; (try with_reducible rfl))); (case hs_28 => assumption); (try simp only [Act.put, List.setIfInBounds_toArray, List.set_cons_zero, List.set_cons_succ])
            refine wpAnyH_take (i := 10) (oi := ?oi_29) (v := ?v_29) ?ho_29 ?h1_29 ?h2_29 ?h3_29 ?hq_29 (Or.inl ⟨?hw_29, ?hy_29⟩) ?hs_29 ?rest_29; (case h2_29 => kernel_rfl); (case h3_29 => kernel_rfl); (case ho_29 => (simp only [List.getElem?_toArray, List.getElem?_cons_zero, List.getElem?_cons_succ]; rfl)); (case h1_29 => kernel_rfl); (case hq_29 => exact fun _ _ _ h => h); (case hw_29 => rfl); (case hy_29 => (intro w' hSw; (try simp only [S] at hSw); go_simp; (try with_reducible rfl))); (case hs_29 => assumption); (try simp only [Act.put, List.setIfInBounds_toArray, List.set_cons_zero, List.set_cons_succ])
            refine wpAnyH_take (i := 11) (oi := ?oi_30) (v := ?v_30) ?ho_30 ?h1_30 ?h2_30 ?h3_30 ?hq_30 (Or.inl ⟨?hw_30, ?hy_30⟩) ?hs_30 ?rest_30; (case h2_30 => kernel_rfl); (case h3_30 => kernel_rfl); (case ho_30 => (simp only [List.getElem?_toArray, List.getElem?_cons_zero, List.getElem?_cons_succ]; rfl)); (case h1_30 => kernel_rfl); (case hq_30 => exact fun _ _ _ h => h); (case hw_30 => rfl); (case hy_30 => (intro w' hSw; (try simp only [S] at hSw); go_simp; (try with_reducible rfl))); (case hs_30 => assumption); (try simp only [Act.put, List.setIfInBounds_toArray, List.set_cons_zero, List.set_cons_succ])
            refine wpAnyH_take (i := 12) (oi := ?oi_31) (v := ?v_31) ?ho_31 ?h1_31 ?h2_31 ?h3_31 ?hq_31 (Or.inl ⟨?hw_31, ?hy_31⟩) ?hs_31 ?rest_31; (case h2_31 => kernel_rfl); (case h3_31 => kernel_rfl); (case ho_31 => (simp only [List.getElem?_toArray, List.getElem?_cons_zero, List.getElem?_cons_succ]; rfl)); (case h1_31 => kernel_rfl); (case hq_31 => exact fun _ _ _ h => h); (case hw_31 => rfl); (case hy_31 => (intro w' hSw; (try simp only [S] at hSw); go_simp; (try with_reducible rfl))); (case hs_31 => assumption); (try simp only [Act.put, List.setIfInBounds_toArray, List.set_cons_zero, List.set_cons_succ])
            refine wpAnyH_take (i := 13) (oi := ?oi_32) (v := ?v_32) ?ho_32 ?h1_32 ?h2_32 ?h3_32 ?hq_32 (Or.inl ⟨?hw_32, ?hy_32⟩) ?hs_32 ?rest_32; (case h2_32 => kernel_rfl); (case h3_32 => kernel_rfl); (case ho_32 => (simp only [List.getElem?_toArray, List.getElem?_cons_zero, List.getElem?_cons_succ]; rfl)); (case h1_32 => kernel_rfl); (case hq_32 => exact fun _ _ _ h => h); (case hw_32 => rfl); (case hy_32 => (intro w' hSw; (try simp only [S] at hSw); go_simp; (try with_reducible rfl))); (case hs_32 => assumption); (try simp only [Act.put, List.setIfInBounds_toArray, List.set_cons_zero, List.set_cons_succ])
            refine wpAnyH_done (by kernel_rfl) ?_ _
            have HE := Lib.hid (show Below V.heap.size V _ from hS11)
            clear hS0 hS9 hS10 hS11 r12
            go_wp2_with fail
            go_meet
            exact ⟨rfl, rfl, HE.out⟩
          case stepX4 =>
            have hS2 : S (U.alloc (.cells bc.toArray 45)) := (show Below V.heap.size V U from hS1).alloc hzU _
            have own1 := own0.alloc (.cells bc.toArray 45)
            have hx79 := heap_alloc_new U (.cells bc.toArray 45)
            have hge0 := own_lt own0
            go_simp
            refine hK.out _ _ hS2 (fun _ => ?_)
            clear hK K q4
            (try simp only [Act.put, List.setIfInBounds_toArray, List.set_cons_zero, List.set_cons_succ])
            obtain ⟨U2, hU2⟩ : ∃ q, U.alloc (.cells bc.toArray 45) = q := ⟨_, rfl⟩
            rw [hU2] at hS2 own1 hx79 ⊢
            clear hU2
            have hz2 := (show Below V.heap.size V U2 from hS2).size
            refine wpAnyH_ready (rs := [2]) (by kernel_rfl) (by simp) (AllReadyH.cons (o := ?oo2_49) ?hoo2_49 (fun K hK => ?steponly49) AllReadyH.nil); (case hoo2_49 => (simp only [List.getElem?_toArray, List.getElem?_cons_zero, List.getElem?_cons_succ]; rfl))
            refine step_app _ rfl (.tmp 75) (.tmp 76) 22 rfl (base := V.heap.size) Try.underlying22 elemLn rfl own1 rfl (hslV.below hS2) hopl (by simp only [maxLen]; omega) (by omega) hz2 ?_
            intro A77 c77 w77 hown77 hg77 hb77 hat77
            simp only [Nat.zero_add, List.nil_append] at hown77 ⊢
            have hS3 : S w77 := (show Below V.heap.size V U2 from hS2).trans hb77
            have hx9 := (Sl.new (n := 1) (sz := 5) ((hg77.block _ (Array.getElem?_eq_some_iff.1 hx79).1 (fun e => by have := hge0 _ e.symm; omega)).trans hx79) (by simpa using hbc5))
            have HT := Lib.hid (And.intro hown77 (And.intro hx9 hS3))
            refine hK.out _ _ hS3 (fun _ => ?_)
            clear hK K hown77 hg77 hb77 hat77 own0 own1 hS1 hS2 hS3 hx79 hx9
            (try simp only [Act.put, List.setIfInBounds_toArray, List.set_cons_zero, List.set_cons_succ])
            obtain ⟨U9, hU9⟩ : ∃ q, w77 = q := ⟨_, rfl⟩
            rw [hU9] at HT ⊢
            clear hU9
            obtain ⟨hown77, hx79, hS9⟩ := HT.out
            clear HT
            have hz9 := (show Below V.heap.size V U9 from hS9).size
            refine wpAnyH_ready (rs := [5]) (by kernel_rfl) (by simp) (AllReadyH.cons (o := ?oo5_50) ?hoo5_50 (fun K hK => ?steponly50) AllReadyH.nil); (case hoo5_50 => (simp only [List.getElem?_toArray, List.getElem?_cons_zero, List.getElem?_cons_succ]; rfl))
            refine step_app _ rfl (.tmp 77) (.tmp 79) 22 rfl (base := V.heap.size) Try.underlying22 elemLn rfl hown77 rfl hx79 hobc (by simp only [maxLen]; omega) (by omega) hz9 ?_
            intro A80 c80 w80 hown80 hg80 hb80 hat80
            have hS10 : S w80 := (show Below V.heap.size V U9 from hS9).trans hb80
            have hln80 := hlA w80 A80 c80 hown80
            refine hK.out _ _ hS10 (fun _ => ?_)
            clear hK K hown77 hx79 hown80 hg80 hb80 hat80
            (try simp only [Act.put, List.setIfInBounds_toArray, List.set_cons_zero, List.set_cons_succ])
            refine wpAnyH_ready (rs := [8]) (by kernel_rfl) (by simp) (AllReadyH.cons (o := ?oo8_51) ?hoo8_51 (fun K hK => ?steponly51) AllReadyH.nil); (case hoo8_51 => (simp only [List.getElem?_toArray, List.getElem?_cons_zero, List.getElem?_cons_succ]; rfl))
            go_simp
            refine Calls.mono (hcA w80 A80 c80 hln80) ?_
            rintro e w83 ⟨rfl, hb83⟩
            have hz10 := (show Below V.heap.size V w80 from hS10).size
            have hS11 : S w83 := (show Below V.heap.size V w80 from hS10).trans (hb83.mono hz10)
            refine hK.out _ _ hS11 (fun _ => ?_)
            clear hK K hln80 hb83
            (try simp only [Act.put, List.setIfInBounds_toArray, List.set_cons_zero, List.set_cons_succ])
            refine wpAnyH_take (i := 9) (oi := ?oi_33) (v := ?v_33) ?ho_33 ?h1_33 ?h2_33 ?h3_33 ?hq_33 (Or.inl ⟨?hw_33, ?hy_33⟩) ?hs_33 ?rest_33; (case h2_33 => kernel_rfl); (case h3_33 => kernel_rfl); (case ho_33 => (simp only [List.getElem?_toArray, List.getElem?_cons_zero, List.getElem?_cons_succ]; rfl)); (case h1_33 => kernel_rfl); (case hq_33 => exact fun _ _ _ h => h); (case hw_33 => rfl); (case hy_33 => (intro w' hSw; (try simp only [S] at hSw); go_simp; (try with_reducible rfl))); (case hs_33 => assumption); (try simp only [Act.put, List.setIfInBounds_toArray, List.set_cons_zero, List.set_cons_succ])
            refine wpAnyH_take (i := 10) (oi := ?oi_34) (v := ?v_34) ?ho_34 ?h1_34 ?h2_34 ?h3_34 ?hq_34 (Or.inl ⟨?hw_34, ?hy_34⟩) ?hs_34 ?rest_34; (case h2_34 => kernel_rfl); (case h3_34 => kernel_rfl); (case ho_34 => (simp only [List.getElem?_toArray, List.getElem?_cons_zero, List.getElem?_cons_succ]; rfl)); (case h1_34 => kernel_rfl); (case hq_34 => exact fun _ _ _ h => h); (case hw_34 => rfl); (case hy_34 => (intro w' hSw; (try simp only [S] at hSw); go_simp; (try with_reducible rfl))); (case hs_34 => assumption); (try simp only [Act.put, List.setIfInBounds_toArray, List.set_cons_zero, List.set_cons_succ])
            refine wpAnyH_take (i := 11) (oi := ?oi_35) (v := ?v_35) ?ho_35 ?h1_35 ?h2_35 ?h3_35 ?hq_35 (Or.inl ⟨?hw_35, ?hy_35⟩) ?hs_35 ?rest_35; (case h2_35 => kernel_rfl); (case h3_35 => kernel_rfl); (case ho_35 => (simp only [List.getElem?_toArray, List.getElem?_cons_zero, List.getElem?_cons_succ]; rfl)); (case h1_35 => kernel_rfl); (case hq_35 => exact fun _ _ _ h => h); (case hw_35 => rfl); (case hy_35 => (intro w' hSw; (try simp only [S] at hSw); go_simp; (try with_reducible rfl))); (case hs_35 => assumption); (try simp only [Act.put, List.setIfInBounds_toArray, List.set_cons_zero, List.set_cons_succ])
            refine wpAnyH_take (i := 12) (oi := ?oi_36) (v := ?v_36) ?ho_36 ?h1_36 ?h2_36 ?h3_36 ?hq_36 (Or.inl ⟨?hw_36, ?hy_36⟩) ?hs_36 ?rest_36; (case h2_36 => kernel_rfl); (case h3_36 => kernel_rfl); (case ho_36 => (simp only [List.getElem?_toArray, List.getElem?_cons_zero, List.getElem?_cons_succ]; rfl)); (case h1_36 => kernel_rfl); (case hq_36 => exact fun _ _ _ h => h); (case hw_36 => rfl); (case hy_36 => (intro w' hSw; (try simp only [S] at hSw); go_simp; (try with_reducible rfl))); (case hs_36 => assumption); (try simp only [Act.put, List.setIfInBounds_toArray, List.set_cons_zero, List.set_cons_succ])
            refine wpAnyH_take (i := 13) (oi := ?oi_37) (v := ?v_37) ?ho_37 ?h1_37 ?h2_37 ?h3_37 ?hq_37 (Or.inl ⟨?hw_37, ?hy_37⟩) ?hs_37 ?rest_37; (case h2_37 => kernel_rfl); (case h3_37 => kernel_rfl); (case ho_37 => (simp only [List.getElem?_toArray, List.getElem?_cons_zero, List.getElem?_cons_succ]; rfl)); (case h1_37 => kernel_rfl); (case hq_37 => exact fun _ _ _ h => h); (case hw_37 => rfl); (case hy_37 => (intro w' hSw; (try simp only [S] at hSw); go_simp; (try with_reducible rfl))); (case hs_37 => assumption); (try simp only [Act.put, List.setIfInBounds_toArray, List.set_cons_zero, List.set_cons_succ])
            refine wpAnyH_done (by kernel_rfl) ?_ _
            have HE := Lib.hid (show Below V.heap.size V _ from hS11)
            clear hS0 hS9 hS10 hS11 r12
            go_wp2_with fail
            go_meet
            exact ⟨rfl, rfl, HE.out⟩
        case step4 =>
          have hS1 : S (V.drew.alloc (.cells bc.toArray 45)) := (Below.refl _ V).drew.alloc (Nat.le_refl _) _
          have a79 : (V.drew.alloc (.cells bc.toArray 45)).heap[V.heap.size]? = some (.cells bc.toArray 45) := heap_alloc_new V.drew _
          go_simp
          refine hK.out _ _ hS1 (fun _ => ?_)
          clear hK K q0 q4
          (try simp only [Act.put, List.setIfInBounds_toArray, List.set_cons_zero, List.set_cons_succ])
          obtain ⟨U, hU⟩ : ∃ q, (V.alloc (.cells bc.toArray 45)).drew = q := ⟨_, rfl⟩
          have hU' : V.drew.alloc (.cells bc.toArray 45) = U := hU
          rw [hU'] at hS1 a79
          rw [hU]
          clear hU hU'
          have hzU := (show Below V.heap.size V U from hS1).size
          have hVU := (Array.getElem?_eq_some_iff.1 a79).1
          have hne : ∀ k, (Value.slice (some ⟨U.heap.size, 0, none⟩) 0 0).ownBlock = some k → k ≠ V.heap.size := fun k hk => by
            have hk' : some U.heap.size = some k := hk
            injection hk' with hk'
            omega
          have q0 := hs0 U
          refine wpAnyH_ready (rs := [0]) (by kernel_rfl) (by simp) (AllReadyH.cons (o := ?oo0_52) ?hoo0_52 (fun K hK => ?steponly52) AllReadyH.nil); (case hoo0_52 => (simp only [List.getElem?_toArray, List.getElem?_cons_zero, List.getElem?_cons_succ]; rfl))
          have hS2 : S (U.alloc (.cells #[] 45)) := (show Below V.heap.size V U from hS1).alloc hzU _
          have own1 := own_none' U V.heap.size 45 5 hzU
          have hx79 := bBlk ((Below.refl U.heap.size U).alloc (Nat.le_refl _) (.cells #[] 45)) hVU a79
          go_simp
          refine hK.out _ _ hS2 (fun _ => ?_)
          clear hK K q0
          (try simp only [Act.put, List.setIfInBounds_toArray, List.set_cons_zero, List.set_cons_succ])
          obtain ⟨U2, hU2⟩ : ∃ q, U.alloc (.cells #[] 45) = q := ⟨_, rfl⟩
          rw [hU2] at hS2 own1 hx79 ⊢
          clear hU2
          have hz2 := (show Below V.heap.size V U2 from hS2).size
          refine wpAnyH_ready (rs := [2]) (by kernel_rfl) (by simp) (AllReadyH.cons (o := ?oo2_53) ?hoo2_53 (fun K hK => ?steponly53) AllReadyH.nil); (case hoo2_53 => (simp only [List.getElem?_toArray, List.getElem?_cons_zero, List.getElem?_cons_succ]; rfl))
          refine step_app _ rfl (.tmp 75) (.tmp 76) 22 rfl (base := V.heap.size) Try.underlying22 elemLn rfl own1 rfl (hslV.below hS2) hopl (by simp only [maxLen]; omega) (by omega) hz2 ?_
          intro A77 c77 w77 hown77 hg77 hb77 hat77
          simp only [Nat.zero_add, List.nil_append] at hown77 ⊢
          have hS3 : S w77 := (show Below V.heap.size V U2 from hS2).trans hb77
          have hx9 := (Sl.new (n := 1) (sz := 5) ((hg77.block _ (Array.getElem?_eq_some_iff.1 hx79).1 (fun e => hne _ e.symm rfl)).trans hx79) (by simpa using hbc5))
          have HT := Lib.hid (And.intro hown77 (And.intro hx9 hS3))
          refine hK.out _ _ hS3 (fun _ => ?_)
          clear hK K hown77 hg77 hb77 hat77 own1 hS1 hS2 hS3 hx79 hx9 a79
          (try simp only [Act.put, List.setIfInBounds_toArray, List.set_cons_zero, List.set_cons_succ])
          obtain ⟨U9, hU9⟩ : ∃ q, w77 = q := ⟨_, rfl⟩
          rw [hU9] at HT ⊢
          clear hU9
          obtain ⟨hown77, hx79, hS9⟩ := HT.out
          clear HT
          have hz9 := (show Below V.heap.size V U9 from hS9).size
          refine wpAnyH_ready (rs := [5]) (by kernel_rfl) (by simp) (AllReadyH.cons (o := ?oo5_54) ?hoo5_54 (fun K hK => ?steponly54) AllReadyH.nil); (case hoo5_54 => (simp only [List.getElem?_toArray, List.getElem?_cons_zero, List.getElem?_cons_succ]; rfl))
          refine step_app _ rfl (.tmp 77) (.tmp 79) 22 rfl (base := V.heap.size) Try.underlying22 elemLn rfl hown77 rfl hx79 hobc (by simp only [maxLen]; omega) (by omega) hz9 ?_
          intro A80 c80 w80 hown80 hg80 hb80 hat80
          have hS10 : S w80 := (show Below V.heap.size V U9 from hS9).trans hb80
          have hln80 := hlA w80 A80 c80 hown80
          refine hK.out _ _ hS10 (fun _ => ?_)
          clear hK K hown77 hx79 hown80 hg80 hb80 hat80
          (try simp only [Act.put, List.setIfInBounds_toArray, List.set_cons_zero, List.set_cons_succ])
          refine wpAnyH_ready (rs := [8]) (by kernel_rfl) (by simp) (AllReadyH.cons (o := ?oo8_55) ?hoo8_55 (fun K hK => ?steponly55) AllReadyH.nil); (case hoo8_55 => (simp only [List.getElem?_toArray, List.getElem?_cons_zero, List.getElem?_cons_succ]; rfl))
          go_simp
          refine Calls.mono (hcA w80 A80 c80 hln80) ?_
          rintro e w83 ⟨rfl, hb83⟩
          have hz10 := (show Below V.heap.size V w80 from hS10).size
          have hS11 : S w83 := (show Below V.heap.size V w80 from hS10).trans (hb83.mono hz10)
          refine hK.out _ _ hS11 (fun _ => ?_)
          clear hK K hln80 hb83
          (try simp only [Act.put, List.setIfInBounds_toArray, List.set_cons_zero, List.set_cons_succ])
          refine wpAnyH_take (i := 9) (oi := ?oi_38) (v := ?v_38) ?ho_38 ?h1_38 ?h2_38 ?h3_38 ?hq_38 (Or.inl ⟨?hw_38, ?hy_38⟩) ?hs_38 ?rest_38; (case h2_38 => kernel_rfl); (case h3_38 => kernel_rfl); (case ho_38 => (simp only [List.getElem?_toArray, List.getElem?_cons_zero, List.getElem?_cons_succ]; rfl)); (case h1_38 => kernel_rfl); (case hq_38 => exact fun _ _ _ h => h); (case hw_38 => rfl); (case hy_38 => (intro w' hSw; (try simp only [S] at hSw); go_simp; (try with_reducible rfl))); (case hs_38 => assumption); (try simp only [Act.put, List.setIfInBounds_toArray, List.set_cons_zero, List.set_cons_succ])
          refine wpAnyH_take (i := 10) (oi := ?oi_39) (v := ?v_39) ?ho_39 ?h1_39 ?h2_39 ?h3_39 ?hq_39 (Or.inl ⟨?hw_39, ?hy_39⟩) ?hs_39 ?rest_39; (case h2_39 => kernel_rfl); (case h3_39 => kernel_rfl); (case ho_39 => (simp only [List.getElem?_toArray, List.getElem?_cons_zero, List.getElem?_cons_succ]; rfl)); (case h1_39 => kernel_rfl); (case hq_39 => exact fun _ _ _ h => h); (case hw_39 => rfl); (case hy_39 => (intro w' hSw; (try simp only [S] at hSw); go_simp; (try with_reducible rfl))); (case hs_39 => assumption); (try simp only [Act.put, List.setIfInBounds_toArray, List.set_cons_zero, List.set_cons_succ])
          refine wpAnyH_take (i := 11) (oi := ?oi_40) (v := ?v_40) ?ho_40 ?h1_40 ?h2_40 ?h3_40 ?hq_40 (Or.inl ⟨?hw_40, ?hy_40⟩) ?hs_40 ?rest_40; (case h2_40 => kernel_rfl); (case h3_40 => kernel_rfl); (case ho_40 => (simp only [List.getElem?_toArray, List.getElem?_cons_zero, List.getElem?_cons_succ]; rfl)); (case h1_40 => kernel_rfl); (case hq_40 => exact fun _ _ _ h => h); (case hw_40 => rfl); (case hy_40 => (intro w' hSw; (try simp only [S] at hSw); go_simp; (try with_reducible rfl))); (case hs_40 => assumption); (try simp only [Act.put, List.setIfInBounds_toArray, List.set_cons_zero, List.set_cons_succ])
          refine wpAnyH_take (i := 12) (oi := ?oi_41) (v := ?v_41) ?ho_41 ?h1_41 ?h2_41 ?h3_41 ?hq_41 (Or.inl ⟨?hw_41, ?hy_41⟩) ?hs_41 ?rest_41; (case h2_41 => kernel_rfl); (case h3_41 => kernel_rfl); (case ho_41 => (simp only [List.getElem?_toArray, List.getElem?_cons_zero, List.getElem?_cons_succ]; rfl)); (case h1_41 => kernel_rfl); (case hq_41 => exact fun _ _ _ h => h); (case hw_41 => rfl); (case hy_41 => (intro w' hSw; (try simp only [S] at hSw); go_simp; (try with_reducible rfl))); (case hs_41 => assumption); (try simp only [Act.put, List.setIfInBounds_toArray, List.set_cons_zero, List.set_cons_succ])
          refine wpAnyH_take (i := 13) (oi := ?oi_42) (v := ?v_42) ?ho_42 ?h1_42 ?h2_42 ?h3_42 ?hq_42 (Or.inl ⟨?hw_42, ?hy_42⟩) ?hs_42 ?rest_42; (case h2_42 => kernel_rfl); (case h3_42 => kernel_rfl); (case ho_42 => (simp only [List.getElem?_toArray, List.getElem?_cons_zero, List.getElem?_cons_succ]; rfl)); (case h1_42 => kernel_rfl); (case hq_42 => exact fun _ _ _ h => h); (case hw_42 => rfl); (case hy_42 => (intro w' hSw; (try simp only [S] at hSw); go_simp; (try with_reducible rfl))); (case hs_42 => assumption); (try simp only [Act.put, List.setIfInBounds_toArray, List.set_cons_zero, List.set_cons_succ])
          refine wpAnyH_done (by kernel_rfl) ?_ _
          have HE := Lib.hid (show Below V.heap.size V _ from hS11)
          clear hS0 hS9 hS10 hS11 r12
          go_wp2_with fail
          go_meet
          exact ⟨rfl, rfl, HE.out⟩
      case rest =>
      clear hcA hlA hsb y12 hti12 hobc hslV
      obtain ⟨rfl, rfl, hB19⟩ := hcut
      have hln1 := HV.out.1.nxt hB19
      have hcB' := hcB _ _ _ hln1
      have HV1 := Lib.hid (And.intro hln1 (And.intro (bNext HV.out.2.1 hB19) HV.out.2.2))
      clear HV hB19 hln1 hcB
      go_upto_region 20 with (fail)
      go_wp2_with fail
      refine Calls.mono hcB' ?_
      rintro e V2 ⟨rfl, hb20⟩
      clear hcB'
      have hln2 := HV1.out.1.nxt hb20
      have hsl2 := hln2.sl
      have HV2 := Lib.hid (And.intro hln2 (And.intro (bNext HV1.out.2.1 hb20) HV1.out.2.2))
      clear HV1 hb20 hln2
      obtain ⟨ec, bec, hec⟩ : ∃ ec : List Value, Try.prog.built 45 [(0, .int .i64 4)] = some ec.toArray ∧ ec = (⟨4, false, false, false, lz⟩ : LN).cells := ⟨_, by kernel_rfl, rfl⟩
      have hec5 : ec.length = 5 := by rw [hec]; rfl
      have hoec : ∀ u ∈ ec, u.oneCell' = true := by rw [hec]; intro u hu; simp only [LN.cells, lz, List.mem_cons, List.mem_nil_iff, or_false] at hu; rcases hu with rfl | rfl | rfl | rfl | rfl <;> rfl
      have hse := fun W => run_slice1 (P := Try.prog) (t := 22) lnZ Try.underlying22 (s := 5) rfl (by omega) (by omega) ec hec5 W
      have HEC := Lib.hid hec
      clear hec
      go_upto_region 21 with (fail)
      refine wp_region_lit ?_
      refine wpList_slice rfl 22 0 #[] rfl (by simp only [List.map_toArray, List.map_nil]; exact hs0 V2) ?_
      (try simp only [Act.put, List.setIfInBounds_toArray, List.set_cons_zero, List.set_cons_succ])
      iterate 3 (first | go_guarded | go_step)
      have own0 := own_none' V2 V2.heap.size 45 5 (Nat.le_refl _)
      have hbA : Below V2.heap.size V2 (V2.alloc (.cells #[] 45)) := (Below.refl _ _).alloc (Nat.le_refl _) _
      obtain ⟨U, hU⟩ : ∃ q, V2.alloc (.cells #[] 45) = q := ⟨_, rfl⟩
      rw [hU] at own0 hbA ⊢
      clear hU
      refine wpList_app _ rfl (.tmp 94) (.tmp 95) 22 rfl (base := V2.heap.size) Try.underlying22 elemLn rfl own0 rfl (hsl2.below hbA) hopl (by simp only [maxLen]; omega) (by omega) hbA.size ?_
      intro A96 c96 w96 hown96 hg96 hb96 hat96
      simp only [Nat.zero_add, List.nil_append] at hown96 ⊢
      have hbB := hbA.trans hb96
      clear own0 hg96 hb96 hat96 hbA
      (try simp only [Act.put, List.setIfInBounds_toArray, List.set_cons_zero, List.set_cons_succ])
      refine wpList_built rfl 45 #[(0, .const (.int .i64 4))] rfl (cs := ec.toArray) (by simp only [List.map_toArray, List.map_cons, List.map_nil]; exact bec) ?_
      (try simp only [Act.put, List.setIfInBounds_toArray, List.set_cons_zero, List.set_cons_succ])
      refine wpList_slice rfl 22 1 #[(0, .tmp 97)] rfl (by simp only [List.map_toArray, List.map_cons, List.map_nil]; exact hse w96) ?_
      (try simp only [Act.put, List.setIfInBounds_toArray, List.set_cons_zero, List.set_cons_succ])
      refine wpList_app _ rfl (.tmp 96) (.tmp 98) 22 rfl (base := V2.heap.size) Try.underlying22 elemLn rfl (hown96.alloc _) rfl (Sl.new (n := 1) (heap_alloc_new _ _) (by simpa using hec5)) hoec (by simp only [maxLen]; omega) (by omega) (by have := hbB.size; simp; omega) ?_
      intro A99 c99 w99 hown99 hg99 hb99 hat99
      have hb2 := (hbB.alloc hbB.size (.cells ec.toArray 45)).trans hb99
      have hcC' := hcC w99 A99 c99 (HV2.out.2.2 _ _ _ _ (by have := hown99; rw [HEC.out] at this; exact this))
      have hln3 := HV2.out.1.nxt hb2
      have HV3 := Lib.hid (And.intro hln3 (bNext HV2.out.2.1 hb2))
      clear hown99 hg99 hb99 hat99 hb2 hbB hown96 HV2 hln3 hcC bec hse
      (try simp only [Act.put, List.setIfInBounds_toArray, List.set_cons_zero, List.set_cons_succ])
      go_wp2_with fail
      refine Calls.mono hcC' ?_
      rintro e V4 ⟨rfl, hb21⟩
      clear hcC'
      have hln4 := HV3.out.1.nxt hb21
      have hcD' := hcD _ _ _ hln4
      have HV4 := Lib.hid (bNext HV3.out.2 hb21)
      clear HV3 hb21 hln4 hcD
      go_upto_region 22 with (fail)
      go_wp2_with fail
      refine Calls.mono hcD' ?_
      rintro e V5 ⟨rfl, hb22⟩
      clear hcD'
      have HV5 := Lib.hid (bNext HV4.out hb22)
      clear HV4 hb22
      have hwk := wakes20_any V5
      go_upto_region 23 with (fail)
      go_wp2_with fail
      refine Calls.mono hwk ?_
      rintro e V6 ⟨rfl, hb23⟩
      clear hwk
      have HV6 := Lib.hid (bNext HV5.out hb23)
      go_wp2_with fail
      go_ret
      exact Ret.mk (vbool (by simp)) HV6.out
set_option maxRecDepth 100000 in
theorem pagesCosts_walk {H : Type} {enc : TypeId × Value → H} {W : World} {base : Nat} {v0 v1 v2 : Value} {d0 d1 d2 : DataW H} {p0 p1 p2 : List MemPlace}
    (k0 : Value.okWide Try.prog W .any base 5 v0) (h0 : DataW.Trod enc Try.prog W 0 (fun _ => true) true 5 v0 d0 p0)
    (k1 : Value.okWide Try.prog W .any base 5 v1) (h1 : DataW.Trod enc Try.prog W 0 (fun _ => true) true 5 v1 d1 p1)
    (k2 : Value.okWide Try.prog W .any base 5 v2) (h2 : DataW.Trod enc Try.prog W 0 (fun _ => true) true 5 v2 d2 p2)
    : Calls Try.prog 6 #[v0, v1, v2] W fun e W' => e = .returned (.bool true) ∧ Below W.heap.size W W' := by
  obtain ⟨za, rfl, _, _, wa⟩ := open_int Try.underlying5 k0 h0
  obtain ⟨zb, rfl, _, _, wb⟩ := open_int Try.underlying5 k1 h1
  obtain ⟨zc, rfl, _, _, wc⟩ := open_int Try.underlying5 k2 h2
  have ha := wf_u8 wa
  have hb := wf_u8 wb
  have hc := wf_u8 wc
  exact costs_core ha.1 (by omega) hb.1 (by omega) hc.1 (by omega) W
end Go.Proofs.Ytdnpcplboohdpaa
