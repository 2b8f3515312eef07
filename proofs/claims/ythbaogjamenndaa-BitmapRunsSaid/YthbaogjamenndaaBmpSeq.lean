/- bitmap.runs: the iterator's contract. -/
import Derived.Test.YthbaogjamenndaaBmpWith
import Derived.RangeFuncBound
import Derived.RangeFuncCalls
import Derived.RangeFuncLeaves
import Derived.Shelf.Abstract
import Derived.Shelf.RegionOpen
import Derived.OwnWalkIn
import Derived.TacticsInMore
import Derived.LoopNIn
import Derived.LoopIn
namespace Go.Proofs.Ythbaogjamenndaa
set_option linter.unusedSimpArgs false
set_option linter.unusedVariables false
open Go.RowKit Go.Shelf
attribute [local go_sem] Oper.semAt_some

/-- the blocks of X are as they were -/
def Hold (X : Nat → Prop) (W W' : World) : Prop := ∀ k, X k → W'.heap[k]? = W.heap[k]?
theorem Hold.refl (X : Nat → Prop) (W : World) : Hold X W W := fun _ _ => rfl
theorem Hold.trans {X : Nat → Prop} {A B C : World} (h : Hold X A B) (k : Hold X B C) : Hold X A C := fun i hi => (k i hi).trans (h i hi)
theorem Hold.of_below {X : Nat → Prop} {n : Nat} {A B : World} (h : Below n A B) (hx : ∀ k, X k → k < n) : Hold X A B := fun k hk => h.block k (hx k hk)
theorem Hold.of_but {X Y : Nat → Prop} {n : Nat} {A B : World} (h : But n Y A B) (hx : ∀ k, X k → k < n ∧ ¬ Y k) : Hold X A B := fun k hk => h.block k (hx k hk).1 (hx k hk).2
theorem Hold.obj {X : Nat → Prop} {w : World} (hx : ∀ k, X k → k < w.heap.size) (W : World) (l : Nat) (o o' : Obj) (hl : w.heap.size ≤ l) (h : W.heap[l]? = some o) (h1 : o.isCells = false) (h2 : o.isWalk = false) : Hold X W (W.putObj l o') :=
  Hold.of_below (belowK_b (Nat.le_refl _) W l o o' hl h h1 h2) hx
theorem Hold.blk {X : Nat → Prop} {W W' : World} (h : Hold X W W') {b : Nat} {o : Obj} (hb : X b) (hv : W.heap[b]? = some o) : W'.heap[b]? = some o := (h b hb).trans hv
theorem grown_of_below {w w' : World} (h : Below w.heap.size w w') : w.grownBy w' none := ⟨h.os, h.tape, h.output, h.size, fun k hk _ => h.block k hk⟩

theorem runs_any {m : List UInt8} (k : Int) (w : World) :
    Calls Try.prog 44 #[bmv m, .int .i64 k] w fun e w' =>
      e = .returned (.func (.func 51) #[] #[.pointer (some ⟨w.heap.size + 1, 0, none⟩), .pointer (some ⟨w.heap.size, 0, none⟩)]) ∧
      (w.alloc (.cells (bvs m).toArray 23)).alloc (.cells #[.int .i64 k] 3) = w' := by
  unfold bmv
  go_enter Try.func44, Try.ntmps44
  go_wp2
  go_ret
  exact ⟨rfl, rfl⟩

def rcs (x : Nat × Nat) : Array Value := #[.int .i64 x.1, .int .i64 x.2]

set_option maxRecDepth 100000 in
set_option maxHeartbeats 4000000 in
theorem runs1_in (l B1 B2 k : Nat) (m : List UInt8) (hm : m.length = 16) (hk : k ≤ 128) (X : Nat → Prop) (h1 : X B1) (h2 : X B2) (J Jx : List (Nat × Nat) → World → Prop) (W : World)
    (hXW : ∀ i, X i → i < W.heap.size)
    (hJ : AbidesFrom W.heap.size J)
    (hY : ∀ pre x W, J pre W → pre.length < k + 1 → YieldAt Fence.wide 9 Try.prog l (rcs x) W fun e W' =>
      (e = .returned (.bool true) ∧ J (pre ++ [x]) W' ∧ Hold X W W' ∧ W.heap.size ≤ W'.heap.size) ∨ (e = .returned (.bool false) ∧ Jx (pre ++ [x]) W'))
    (hB1 : W.heap[B1]? = some (.cells #[.int .i64 k] 3)) (hB2 : W.heap[B2]? = some (.cells (bvs m).toArray 23)) (h0 : J [] W) :
    CallsIn Fence.wide 10 Try.prog 51 #[.func (.yield l) #[] #[], .pointer (some ⟨B1, 0, none⟩), .pointer (some ⟨B2, 0, none⟩)] W fun e W' => (∃ v, e = .returned v) ∧
      ((∃ ys, ys = runsAt m k 0 ∧ J ys W') ∨ (∃ pre, (∃ rest, runsAt m k 0 = pre ++ rest) ∧ Jx pre W')) := by
  have hkk : (k : Int) ≤ 128 := by omega
  refine callsIn_of_wp Try.func51 rfl trivial ?_ rfl
  simp only [Try.ntmps51, List.size_toArray, List.length_cons, List.length_nil, Nat.reduceAdd, Nat.reduceSub, Array.replicate_succ, Array.replicate_zero, List.push_toArray, List.append_toArray, List.nil_append, List.cons_append]
  gi_wp2
  gi_loopw [4] (fun i wr => ∃ (f : Nat) (pre : List (Nat × Nat)), f ≤ k + 1 ∧ i = .int .i64 f ∧ pre ++ runsAt m k f = runsAt m k 0 ∧ pre.length ≤ f ∧ J pre wr ∧ Hold X W wr ∧ W.heap.size ≤ wr.heap.size)
    (fun i _ => k + 1 - (intOf i).toNat)
  case atStart => exact ⟨0, [], by omega, rfl, rfl, by simp, h0, Hold.refl _ _, Nat.le_refl _⟩
  case round =>
    obtain ⟨f, pre, hf, rfl, hpre, hlen, hJs, hnx, hsz⟩ := hrel
    have HPRE := Lib.hid hpre
    clear hpre
    have c1 := blk_cell (hnx.blk h1 hB1) (k := 0) rfl
    by_cases hlt : f < k
    · have g1 : (f : Int) < k := by omega
      have hrl := rl_le m k f
      have HRL := Lib.hid (fun j hj => rl_in (m := m) (k := k) (f := f) (j := j) hj (by omega))
      obtain ⟨R, hR⟩ : ∃ R, rl m k f = R := ⟨_, rfl⟩
      have HRR := Lib.hid hR
      rw [hR] at hrl
      clear hR
      gi_wp2
      gi_loopw [5] (fun n wr' => ∃ c : Nat, n = .int .i64 c ∧ c ≤ R ∧ J pre wr' ∧ Hold X W wr' ∧ W.heap.size ≤ wr'.heap.size) (fun n _ => R - (intOf n).toNat)
      case atStart => exact ⟨0, rfl, by omega, hJs, hnx, hsz⟩
      case round =>
        obtain ⟨c, rfl, hc, hJc, hnc, hsc⟩ := hrel
        have d1 := blk_cell (hnc.blk h1 hB1) (k := 0) rfl
        have bM := hnc.blk h2 hB2
        have hl1 : B1 < W.heap.size := hXW _ h1
        have hl2 : B2 < W.heap.size := hXW _ h2
        by_cases hend : f + c < k
        · have g2 : (f : Int) + c < k := by omega
          obtain ⟨q, hq⟩ : ∃ q, f + c = q := ⟨_, rfl⟩
          have g3 : (f : Int) + c = (q : Int) := by omega
          have hh := fun V => has_any hm q V
          rw [hasB_nat (show q < 128 by omega)] at hh
          unfold bmv at hh
          have hRc : (bit m q = true → c = R) ∧ (bit m q = false → c < R) := by
            have e1 := HRL.out c (by rw [HRR.out]; exact hc)
            rw [HRR.out, hq] at e1
            constructor
            · intro hb; rw [rl_used hb] at e1; omega
            · intro hb; rw [rl_free (by omega) hb] at e1; omega
          obtain ⟨t, ht⟩ : ∃ t, bit m q = t := ⟨_, rfl⟩
          rw [ht] at hh hRc
          have HRC := Lib.hid hRc
          have HQ := Lib.hid hq
          clear ht hRc hq
          refine wpIn_wide.2 ?_
          go_wp2_with (refine wpList_load_row_g (by simp [Region.wanted, yielded]; omega) 23 (.tmp 2) rfl _ rfl _ (bvs m).toArray (0, 0) _ bM Try.underlying23 rfl (bm_info hm) ?_)
          refine (hh _).mono ?_
          rintro e W2 ⟨rfl, hb2⟩
          have hJ2 := hJ pre _ _ none hJc (grown_of_below hb2) (fun r e => by cases e)
          have hn2 := hnc.trans (Hold.of_below hb2 (fun i hi => by have := hXW i hi; omega))
          have hs2 : W.heap.size ≤ W2.heap.size := by have := hb2.size; omega
          clear hh hb2
          cases t
          · have hcR := HRC.out.2 rfl
            go_wp2
            go_roundw
            case rel => exact ⟨c + 1, by go_num, by omega, hJ2, hn2, hs2⟩
            case measure => simp [intOf]; omega
          · have hcR := HRC.out.1 rfl
            obtain rfl : c = R := by omega
            by_cases hc0 : 0 < c
            · have hc0' : (0 : Int) < c := by omega
              have hpos : 0 < rl m k f := by rw [HRR.out]; exact hc0
              have HN := Lib.hid (runsAt_run hlt hpos)
              obtain ⟨fn, tmps, assign, body, hy, hR⟩ := hY pre (f, c) W2 hJ2 (by omega)
              simp only [rcs] at hy
              clear hpos
              go_wp2_with fail
              gi_wp2
              refine hR.mono ?_
              rintro e W3 (⟨rfl, hJ3, hk3, hz3⟩ | ⟨rfl, hJx3⟩)
              · gi_wp2
                go_roundw
                case rel =>
                  refine ⟨f + c + 1, pre ++ [(f, c)], by omega, by go_num, ?_, by simp; omega, hJ3, hn2.trans hk3, by omega⟩
                  have e1 := HN.out
                  rw [HRR.out] at e1
                  have e2 := HPRE.out
                  rw [e1] at e2
                  rw [← e2]; simp
                case measure => simp [intOf]; omega
              · gi_wp2
                refine bodyPost_ret (results_none rfl _ _ _) rfl ?_
                refine ⟨⟨_, rfl⟩, .inr ⟨_, ⟨runsAt m k (f + c + 1), ?_⟩, hJx3⟩⟩
                have e1 := HN.out
                rw [HRR.out] at e1
                have e2 := HPRE.out
                rw [e1] at e2
                rw [← e2]; simp
            · obtain rfl : c = 0 := by omega
              have hpos : ¬ 0 < rl m k f := by rw [HRR.out]; omega
              have HN := Lib.hid (runsAt_skip hlt hpos)
              clear hpos
              go_wp2_with fail
              gi_wp2
              refine ⟨fun _ _ => trivial, ?_⟩
              gi_wp2
              go_roundw
              case rel => exact ⟨f + 1, pre, by omega, by go_num, by rw [← HN.out]; exact HPRE.out, by omega, hJ2, hn2, hs2⟩
              case measure => simp [intOf]; omega
        · have g2 : ¬ (f : Int) + c < k := by omega
          obtain rfl : c = R := by omega
          by_cases hc0 : 0 < c
          · have hc0' : (0 : Int) < c := by omega
            have hpos : 0 < rl m k f := by rw [HRR.out]; exact hc0
            have HN := Lib.hid (runsAt_run hlt hpos)
            obtain ⟨fn, tmps, assign, body, hy, hR⟩ := hY pre (f, c) wr hJc (by omega)
            simp only [rcs] at hy
            clear hpos
            gi_wp2
            refine ⟨trivial, ?_⟩
            gi_wp2
            refine hR.mono ?_
            rintro e W3 (⟨rfl, hJ3, hk3, hz3⟩ | ⟨rfl, hJx3⟩)
            · gi_wp2
              go_roundw
              case rel =>
                refine ⟨f + c + 1, pre ++ [(f, c)], by omega, by go_num, ?_, by simp; omega, hJ3, hnc.trans hk3, by omega⟩
                have e1 := HN.out
                rw [HRR.out] at e1
                have e2 := HPRE.out
                rw [e1] at e2
                rw [← e2]; simp
              case measure => simp [intOf]; omega
            · gi_wp2
              refine bodyPost_ret (results_none rfl _ _ _) rfl ?_
              refine ⟨⟨_, rfl⟩, .inr ⟨_, ⟨runsAt m k (f + c + 1), ?_⟩, hJx3⟩⟩
              have e1 := HN.out
              rw [HRR.out] at e1
              have e2 := HPRE.out
              rw [e1] at e2
              rw [← e2]; simp
          · exfalso; omega
    · have g1 : ¬ (f : Int) < k := by omega
      gi_wp2
      go_end0
      have e2 := HPRE.out
      rw [runsAt_end (by omega), List.append_nil] at e2
      refine ⟨⟨_, rfl⟩, .inl (by rw [e2] at hJs; exact hJs)⟩
end Go.Proofs.Ythbaogjamenndaa
