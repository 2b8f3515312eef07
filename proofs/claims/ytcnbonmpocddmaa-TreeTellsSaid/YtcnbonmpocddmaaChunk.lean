/- slices.Chunk at bytes: the iterator's contract. -/
import Derived.Test.YtcnbonmpocddmaaBut
import Derived.Test.YtcnbonmpocddmaaChecked
import Derived.RangeFuncNested
import Derived.RangeFuncBox
import Derived.RangeFuncBound
import Derived.RangeFuncCalls
import Derived.RangeFuncLeaves
import Derived.Shelf.Abstract
import Derived.Shelf.RegionOpen
import Derived.OwnWalkIn
import Derived.TacticsInMore
import Derived.LoopNIn
import Derived.LoopIn
namespace Go.Proofs.Ytcnbonmpocddmaa
open Go.RowKit Go.Shelf
attribute [local go_sem] Oper.semAt_some

theorem chunk_any (A : Option Addr) (n c : Nat) (sz : Int) (h : 0 < sz) (w : World) :
    Calls Try.prog 21 #[.slice A n c, .int .i64 sz] w fun e w' =>
      e = .returned (.func (.func 26) #[] #[.pointer (some ⟨w.heap.size, 0, none⟩), .pointer (some ⟨w.heap.size + 1, 0, none⟩)]) ∧ (w.alloc (.cells #[.slice A n c] 23)).alloc (.cells #[.int .i64 sz] 3) = w' := by
  go_enter Try.func21, Try.ntmps21
  go_wp2
  go_ret
  exact ⟨rfl, rfl⟩

/-- how long the k-th part is -/
def cl (len sz k : Nat) : Nat := min sz (len - k * sz)
theorem take_finRange {cnt k : Nat} (h : k < cnt) : (List.finRange cnt).take k ++ [⟨k, h⟩] = (List.finRange cnt).take (k + 1) := by
  rw [List.take_succ_eq_append_getElem (by simpa using h)]
  simp
theorem take_finRange_all {cnt k : Nat} (h : cnt ≤ k) : (List.finRange cnt).take k = List.finRange cnt := List.take_of_length_le (by simpa using h)

/-- the iterator's two boxes are as they were -/
def Two (B1 B2 : Nat) (W W' : World) : Prop := W'.cell? ⟨B1, 0, none⟩ = W.cell? ⟨B1, 0, none⟩ ∧ W'.cell? ⟨B2, 0, none⟩ = W.cell? ⟨B2, 0, none⟩
theorem Two.refl (B1 B2 : Nat) (W : World) : Two B1 B2 W W := ⟨rfl, rfl⟩
theorem Two.trans {B1 B2 : Nat} {A B C : World} (h : Two B1 B2 A B) (k : Two B1 B2 B C) : Two B1 B2 A C := ⟨k.1.trans h.1, k.2.trans h.2⟩
theorem Two.drew {B1 B2 : Nat} {A B : World} (h : Two B1 B2 A B) : Two B1 B2 A B.drew := h
theorem Two.obj {B1 B2 : Nat} {w : World} (h1 : B1 < w.heap.size) (h2 : B2 < w.heap.size) (W : World) (l : Nat) (o o' : Obj) (hl : w.heap.size ≤ l) (h : W.heap[l]? = some o) (_ : o.isCells = false) (_ : o.isWalk = false) : Two B1 B2 W (W.putObj l o') :=
  ⟨(belowK_b (Nat.le_refl _) W l o o' hl h (by assumption) (by assumption)).cell (p := ⟨B1, 0, none⟩) h1, (belowK_b (Nat.le_refl _) W l o o' hl h (by assumption) (by assumption)).cell (p := ⟨B2, 0, none⟩) h2⟩
theorem Two.boxed {B1 B2 : Nat} {A C : World} {t1 t2 : TypeId} {v1 v2 : Value} (a1 : Boxed A B1 t1 v1) (a2 : Boxed A B2 t2 v2) (c1 : Boxed C B1 t1 v1) (c2 : Boxed C B2 t2 v2) : Two B1 B2 A C :=
  ⟨c1.cell.trans a1.cell.symm, c2.cell.trans a2.cell.symm⟩

set_option maxRecDepth 100000 in
set_option maxHeartbeats 2000000 in
theorem chunk1_in (l B1 B2 b o len cap sz cnt : Nat) (hsz : 0 < sz) (hs31 : sz ≤ 2147483648) (hcnt : ∀ k, k < cnt ↔ k * sz < len) (hlc : len ≤ cap) (hm : len ≤ 4611686018427387904) (J Jx : List (Fin cnt) → World → Prop)
    (hJd : ∀ pre W, J pre W → J pre W.drew)
    (hY : ∀ pre x W, J pre W → pre.length < cnt → YieldAt Fence.wide 9 Try.prog l #[.slice (some ⟨b, o + x.1 * sz, none⟩) (cl len sz x.1) (cl len sz x.1)] W fun e W' =>
      (e = .returned (.bool true) ∧ J (pre ++ [x]) W' ∧ Two B1 B2 W W') ∨ (e = .returned (.bool false) ∧ Jx (pre ++ [x]) W'))
    (W : World) (hB1 : W.cell? ⟨B1, 0, none⟩ = some (.slice (some ⟨b, o, none⟩) len cap)) (hB2 : W.cell? ⟨B2, 0, none⟩ = some (.int .i64 sz)) (h0 : J [] W) :
    CallsIn Fence.wide 10 Try.prog 26 #[.func (.yield l) #[] #[], .pointer (some ⟨B1, 0, none⟩), .pointer (some ⟨B2, 0, none⟩)] W fun e W' => (∃ v, e = .returned v) ∧
      ((∃ ys, ys = List.finRange cnt ∧ J ys W') ∨ (∃ pre, (∃ k, k ≤ cnt ∧ pre = (List.finRange cnt).take k) ∧ Jx pre W')) := by
  refine callsIn_of_wp Try.func26 rfl trivial ?_ rfl
  simp only [Try.ntmps26, List.size_toArray, List.length_cons, List.length_nil, Nat.reduceAdd, Nat.reduceSub, Array.replicate_succ, Array.replicate_zero, List.push_toArray, List.append_toArray, List.nil_append, List.cons_append]
  gi_wp2
  gi_loopw [4] (fun i wr => ∃ k : Nat, k ≤ cnt ∧ i = .int .i64 (k * sz : Nat) ∧ J ((List.finRange cnt).take k) wr ∧ Two B1 B2 W wr)
    (fun i _ => len + sz - (intOf i).toNat)
  case atStart => exact ⟨0, Nat.zero_le _, by simp, by simpa using h0, Two.refl _ _ _⟩
  case round =>
    obtain ⟨k, hk, rfl, hJs, hnx⟩ := hrel
    have c1 : wr.cell? ⟨B1, 0, none⟩ = some (.slice (some ⟨b, o, none⟩) len cap) := hnx.1.trans hB1
    have c2 : wr.cell? ⟨B2, 0, none⟩ = some (.int .i64 sz) := hnx.2.trans hB2
    by_cases hlt : k < cnt
    · have e1 : k * sz < len := (hcnt k).1 hlt
      have e0 : (k + 1) * sz = k * sz + sz := by rw [Nat.add_mul, Nat.one_mul]
      obtain ⟨fn, tmps, assign, body, hy, hR⟩ := hY _ ⟨k, hlt⟩ wr.drew (hJd _ _ hJs) (by simp; omega)
      have ecl : cl len sz k = min sz (len - k * sz) := rfl
      dsimp only at hy
      clear hcnt
      generalize hK : k * sz = q at *
      have HK := Lib.hid hK
      have HE := Lib.hid e0
      clear hK e0
      have b1 : (0 : Int) ≤ (q : Int) := Int.natCast_nonneg _
      have b2 : (q : Int) ≤ (len : Int) := by omega
      by_cases b3 : (sz : Int) ≤ (len : Int) - (q : Int)
      · rw [show cl len sz k = sz from by omega] at hy
        have E2 : q + sz - q = sz := by omega
        gi_wp2
        gi_region
        all_goals gi_wp2
        rw [E2]
        gi_wp2
        refine hR.mono ?_
        rintro e W3 (⟨rfl, hJ3, hk3⟩ | ⟨rfl, hJx3⟩)
        · have c2' : W3.cell? ⟨B2, 0, none⟩ = some (.int .i64 sz) := hk3.2.trans (by simpa using c2)
          gi_wp2
          go_roundw
          case rel => exact ⟨k + 1, by omega, by rw [HE.out]; go_num, by rw [take_finRange hlt] at hJ3; exact hJ3, (Two.drew hnx).trans hk3⟩
          case measure => simp [intOf]; omega
        · gi_wp2
          refine bodyPost_ret (results_none rfl _ _ _) rfl ?_
          exact ⟨⟨_, rfl⟩, .inr ⟨_, ⟨k + 1, by omega, take_finRange hlt⟩, hJx3⟩⟩
      · rw [show cl len sz k = len - q from by omega] at hy
        have E2 : q + (len - q) - q = len - q := by omega
        gi_wp2
        gi_region
        all_goals gi_wp2
        rw [E2]
        gi_wp2
        refine hR.mono ?_
        rintro e W3 (⟨rfl, hJ3, hk3⟩ | ⟨rfl, hJx3⟩)
        · have c2' : W3.cell? ⟨B2, 0, none⟩ = some (.int .i64 sz) := hk3.2.trans (by simpa using c2)
          gi_wp2
          go_roundw
          case rel => exact ⟨k + 1, by omega, by rw [HE.out]; go_num, by rw [take_finRange hlt] at hJ3; exact hJ3, (Two.drew hnx).trans hk3⟩
          case measure => simp [intOf]; omega
        · gi_wp2
          refine bodyPost_ret (results_none rfl _ _ _) rfl ?_
          exact ⟨⟨_, rfl⟩, .inr ⟨_, ⟨k + 1, by omega, take_finRange hlt⟩, hJx3⟩⟩
    · obtain rfl : k = cnt := by omega
      have e1 : ¬ k * sz < len := fun h => by have := (hcnt k).2 h; omega
      clear hcnt
      gi_wp2
      go_end0
      exact ⟨⟨_, rfl⟩, .inl ⟨_, rfl, by rw [take_finRange_all (Nat.le_refl _)] at hJs; exact hJs⟩⟩

theorem grown_drew0 (w : World) (row : Option Nat) : w.grownBy w.drew row := ⟨rfl, rfl, rfl, Nat.le_refl _, fun _ _ _ => rfl⟩
theorem cl_full {len sz k cnt : Nat} (h : len = cnt * sz) (hk : k < cnt) : cl len sz k = sz := by
  subst h
  have : (k + 1) * sz ≤ cnt * sz := Nat.mul_le_mul_right _ hk
  rw [Nat.add_mul, Nat.one_mul] at this
  unfold cl; omega

/-- slices.Chunk hands back a value that yields the parts in order, or the first of them. -/
theorem chunk_stops (B1 B2 b o len cap sz cnt : Nat) (hsz : 0 < sz) (hs31 : sz ≤ 2147483648) (hcnt : ∀ k, k < cnt ↔ k * sz < len) (hlc : len ≤ cap) (hm : len ≤ 4611686018427387904) (w : World) (h1n : B1 < w.heap.size) (h2n : B2 < w.heap.size)
    (hB1 : w.cell? ⟨B1, 0, none⟩ = some (.slice (some ⟨b, o, none⟩) len cap)) (hB2 : w.cell? ⟨B2, 0, none⟩ = some (.int .i64 sz)) :
    SeqStopsK Fence.wide 10 Try.prog 26 #[.pointer (some ⟨B1, 0, none⟩), .pointer (some ⟨B2, 0, none⟩)] (fun x : Fin cnt => #[Value.slice (some ⟨b, o + x.1 * sz, none⟩) (cl len sz x.1) (cl len sz x.1)]) (Two B1 B2) (fun ys => ys = List.finRange cnt)
      (fun pre => ∃ k, k ≤ cnt ∧ pre = (List.finRange cnt).take k) cnt w := fun l J Jx W hW hJ _ hY h0 =>
  chunk1_in l B1 B2 b o len cap sz cnt hsz hs31 hcnt hlc hm J Jx (fun pre V hV => hJ pre V V.drew none hV (grown_drew0 _ _) (fun r e => by cases e)) hY W
    ((hW.cell (p := ⟨B1, 0, none⟩) h1n).trans hB1) ((hW.cell (p := ⟨B2, 0, none⟩) h2n).trans hB2) h0
end Go.Proofs.Ytcnbonmpocddmaa
