/- The marks of a line: the iterator over them. -/
import Derived.Test.YtiffcdeagckgmaaDoorShMem
import Derived.Test.YtiffcdeagckgmaaDoorRound
import Derived.StillTailTactics
import Derived.RangeFuncBound
import Derived.RangeFuncCalls
import Derived.RangeFuncLeaves
import Derived.Shelf.Abstract
import Derived.Shelf.RegionOpen
import Derived.OwnWalkIn
import Derived.TacticsInMore
import Derived.LoopNIn
import Derived.LoopIn
namespace Go.Proofs.YtiffcdeagckgmaaDoor
set_option linter.unusedSimpArgs false
set_option linter.unusedVariables false
open Go.RowKit Go.Shelf
attribute [local go_sem] Oper.semAt_some

def Hold (X : Nat → Prop) (W W' : World) : Prop := ∀ k, X k → W'.heap[k]? = W.heap[k]?
theorem Hold.refl (X : Nat → Prop) (W : World) : Hold X W W := fun _ _ => rfl
theorem Hold.trans {X : Nat → Prop} {A B C : World} (h : Hold X A B) (k : Hold X B C) : Hold X A C := fun i hi => (k i hi).trans (h i hi)
theorem Hold.of_below {X : Nat → Prop} {n : Nat} {A B : World} (h : Below n A B) (hx : ∀ k, X k → k < n) : Hold X A B := fun k hk => h.block k (hx k hk)
theorem Hold.of_but {X Y : Nat → Prop} {n : Nat} {A B : World} (h : But n Y A B) (hx : ∀ k, X k → k < n ∧ ¬ Y k) : Hold X A B := fun k hk => h.block k (hx k hk).1 (hx k hk).2
theorem Hold.obj {X : Nat → Prop} {w : World} (hx : ∀ k, X k → k < w.heap.size) (W : World) (l : Nat) (o o' : Obj) (hl : w.heap.size ≤ l) (h : W.heap[l]? = some o) (h1 : o.isCells = false) (h2 : o.isWalk = false) : Hold X W (W.putObj l o') :=
  Hold.of_below (belowK_b (Nat.le_refl _) W l o o' hl h h1 h2) hx
theorem Hold.cell {X : Nat → Prop} {W W' : World} (h : Hold X W W') {b o : Nat} {v : Value} (hb : X b) (hv : W.cell? ⟨b, o, none⟩ = some v) : W'.cell? ⟨b, o, none⟩ = some v :=
  (World.cell?_of_block (a := ⟨b, o, none⟩) (h b hb)).trans hv
theorem Hold.sl {X : Nat → Prop} {W W' : World} (h : Hold X W W') {B sz n : Nat} {A : Option Addr} {xs : List Value} (hs : Sl W B sz A n xs) (hx : ∀ b o, A = some ⟨b, o, none⟩ → X b) : Sl W' B sz A n xs :=
  ⟨hs.len, fun hn => by
    obtain ⟨b, o, e, hb, hr⟩ := hs.at_ hn
    exact ⟨b, o, e, hb, fun j v hv => h.cell (hx b o e) (hr j v hv)⟩⟩

def bitOf : Fin 3 → Int
  | 0 => 4
  | 1 => 8
  | 2 => 16
def flagOf (x : LN) : Fin 3 → Bool
  | 0 => x.first
  | 1 => x.last
  | 2 => x.over
def mkc (x : LN) (k : Fin 3) : Array Value := #[.int .i64 (bitOf k), .bool (flagOf x k)]
set_option maxRecDepth 100000 in
set_option maxHeartbeats 2000000 in
theorem mapped1_in (l B : Nat) (x : LN) (X : Nat → Prop) (hXB : X B) (J Jx : List (Fin 3) → World → Prop)
    (hY : ∀ pre k W, J pre W → pre.length < 3 → YieldAt Fence.wide 9 Tryd.prog l (mkc x k) W fun e W' => (e = .returned (.bool true) ∧ J (pre ++ [k]) W' ∧ Hold X W W') ∨ (e = .returned (.bool false) ∧ Jx (pre ++ [k]) W'))
    (W : World) (hB : W.heap[B]? = some (.cells x.cells.toArray 45)) (h0 : J [] W) :
    CallsIn Fence.wide 10 Tryd.prog 33 #[.func (.yield l) #[] #[], .pointer (some ⟨B, 0, none⟩)] W fun e W' => (∃ v, e = .returned v) ∧
      ((∃ ys, ys = List.finRange 3 ∧ J ys W') ∨ (∃ pre, (∃ k, k ≤ 3 ∧ pre = (List.finRange 3).take k) ∧ Jx pre W')) := by
  have c1 : W.cell? ⟨B, 1, none⟩ = some (.bool x.first) := blk_cell hB rfl
  have c2 : W.cell? ⟨B, 2, none⟩ = some (.bool x.last) := blk_cell hB rfl
  have c3 : W.cell? ⟨B, 3, none⟩ = some (.bool x.over) := blk_cell hB rfl
  have hYY := Lib.hid hY
  obtain ⟨fn, tmps, assign, body, hy, hR⟩ := hY [] 0 W h0 (by simp)
  try dsimp only at hy
  simp only [mkc, bitOf, flagOf] at hy
  clear hY hB
  refine callsIn_of_wp Tryd.func33 rfl trivial ?_ rfl
  simp only [Tryd.ntmps33, List.size_toArray, List.length_cons, List.length_nil, Nat.reduceAdd, Nat.reduceSub, Array.replicate_succ, Array.replicate_zero, List.push_toArray, List.append_toArray, List.nil_append, List.cons_append]
  gi_wp2
  refine hR.mono ?_
  rintro e W3 (⟨rfl, hJ3, hk3⟩ | ⟨rfl, hJx3⟩)
  · have d2 := hk3.cell hXB c2
    have d3 := hk3.cell hXB c3
    obtain ⟨fn2, tmps2, assign2, body2, hy2, hR2⟩ := hYY.out ([] ++ [0]) 1 W3 hJ3 (by simp)
    try dsimp only at hy2
    simp only [mkc, bitOf, flagOf] at hy2
    clear hy hR c1 c2 c3
    gi_wp2
    refine hR2.mono ?_
    rintro e W4 (⟨rfl, hJ4, hk4⟩ | ⟨rfl, hJx4⟩)
    · have e3 := hk4.cell hXB d3
      obtain ⟨fn3, tmps3, assign3, body3, hy3, hR3⟩ := hYY.out ([] ++ [0] ++ [1]) 2 W4 hJ4 (by simp)
      try dsimp only at hy3
      simp only [mkc, bitOf, flagOf] at hy3
      clear hy2 hR2 d2 d3
      gi_wp2
      refine hR3.mono ?_
      rintro e W5 (⟨rfl, hJ5, hk5⟩ | ⟨rfl, hJx5⟩)
      · gi_wp2
        (first | go_end0 | go_ret | go_returns)
        exact ⟨⟨_, rfl⟩, .inl ⟨_, rfl, hJ5⟩⟩
      · gi_wp2
        (first | go_end0 | go_ret | go_returns)
        exact ⟨⟨_, rfl⟩, .inr ⟨_, ⟨3, by omega, rfl⟩, hJx5⟩⟩
    · gi_wp2
      (first | go_end0 | go_ret | go_returns)
      exact ⟨⟨_, rfl⟩, .inr ⟨_, ⟨2, by omega, rfl⟩, hJx4⟩⟩
  · gi_wp2
    refine ⟨fun f hf => (by cases hf), ?_⟩
    rename_i HK _ _ _ _
    apply HK
    clear HK
    gi_wp2
    go_end0
    exact ⟨⟨_, rfl⟩, .inr ⟨_, ⟨1, by omega, rfl⟩, hJx3⟩⟩
theorem mapped_any (cs : Array Value) (w : World) :
    Calls Tryd.prog 28 #[.agg cs] w fun e w' => e = .returned (.func (.func 33) #[] #[.pointer (some ⟨w.heap.size, 0, none⟩)]) ∧ w.alloc (.cells cs 45) = w' := by
  go_enter Tryd.func28, Tryd.ntmps28
  go_wp2
  go_ret
  exact ⟨rfl, rfl⟩
end Go.Proofs.YtiffcdeagckgmaaDoor
