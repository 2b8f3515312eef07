/- measure.within: the iterator's contract. -/
import Derived.Test.YtnojikbecohhfaaMsrWalk
import Derived.Test.YtnojikbecohhfaaRound
import Derived.StillTailTactics
import Derived.RangeFuncBound
import Derived.RangeFuncCalls
import Derived.RangeFuncLeaves
import Derived.Shelf.Abstract
import Derived.Shelf.RegionOpen
import Derived.OwnWalkIn
import Derived.TacticsInMore
import Derived.LoopNIn
import Derived.LoopIn
namespace Go.Proofs.Ytnojikbecohhfaa
set_option linter.unusedSimpArgs false
set_option linter.unusedVariables false
open Go.RowKit Go.Shelf
attribute [local go_sem] Oper.semAt_some

/-- the blocks of X are as they were -/
def Hold (X : Nat → Prop) (W W' : World) : Prop := ∀ k, X k → W'.heap[k]? = W.heap[k]?
theorem Hold.refl (X : Nat → Prop) (W : World) : Hold X W W := fun _ _ => rfl
theorem Hold.trans {X : Nat → Prop} {A B C : World} (h : Hold X A B) (k : Hold X B C) : Hold X A C := fun i hi => (k i hi).trans (h i hi)
theorem Hold.of_below {X : Nat → Prop} {n : Nat} {A B : World} (h : Below n A B) (hx : ∀ k, X k → k < n) : Hold X A B := fun k hk => h.block k (hx k hk)
theorem Hold.of_but {X Y : Nat → Prop} {n : Nat} {A B : World} (h : But n Y A B) (hx : ∀ k, X k → k < n ∧ ¬ Y k) : Hold X A B := fun k hk => h.block k (hx k hk).1 (hx k hk).2
theorem Hold.obj {X : Nat → Prop} {w : World} (hx : ∀ k, X k → k < w.heap.size) (W : World) (l : Nat) (o o' : Obj) (hl : w.heap.size ≤ l) (h : W.heap[l]? = some o) (h1 : o.isCells = false) (h2 : o.isWalk = false) : Hold X W (W.putObj l o') :=
  Hold.of_below (belowK_b (Nat.le_refl _) W l o o' hl h h1 h2) hx
theorem Hold.cell {X : Nat → Prop} {W W' : World} (h : Hold X W W') {b o : Nat} {v : Value} (hb : X b) (hv : W.cell? ⟨b, o, none⟩ = some v) : W'.cell? ⟨b, o, none⟩ = some v :=
  (World.cell?_of_block (a := ⟨b, o, none⟩) (h b hb)).trans hv
theorem Hold.sl {X : Nat → Prop} {W W' : World} (h : Hold X W W') {B sz n : Nat} {A : Option Addr} {xs : List Value} (hs : Sl W B sz A n xs) (hx : ∀ b o, A = some ⟨b, o, none⟩ → X b) : Sl W' B sz A n xs :=
  ⟨hs.len, fun hn => by
    obtain ⟨b, o, e, hb, hr⟩ := hs.at_ hn
    exact ⟨b, o, e, hb, fun j v hv => h.cell (hx b o e) (hr j v hv)⟩⟩

theorem take_finRange {cnt k : Nat} (h : k < cnt) : (List.finRange cnt).take k ++ [⟨k, h⟩] = (List.finRange cnt).take (k + 1) := by
  rw [List.take_succ_eq_append_getElem (by simpa using h)]
  simp
theorem take_finRange_all {cnt k : Nat} (h : cnt ≤ k) : (List.finRange cnt).take k = List.finRange cnt := List.take_of_length_le (by simpa using h)

theorem within_any (A : Option Addr) (n c : Nat) (from_ to : Int) (w : World) :
    Calls Try.prog 34 #[.slice A n c, .int .i64 from_, .int .i64 to] w fun e w' =>
      e = .returned (.func (.func 45) #[] #[.pointer (some ⟨w.heap.size, 0, none⟩), .pointer (some ⟨w.heap.size + 1, 0, none⟩), .pointer (some ⟨w.heap.size + 1 + 1, 0, none⟩)]) ∧
      ((w.alloc (.cells #[.slice A n c] 22)).alloc (.cells #[.int .i64 from_] 3)).alloc (.cells #[.int .i64 to] 3) = w' := by
  go_enter Try.func34, Try.ntmps34
  go_wp2
  go_ret
  exact ⟨rfl, rfl⟩

def itAt (L : List It) (k : Nat) : It := L[k]?.getD ⟨0, 0, 0, 0, 0, ByteArray.empty⟩
theorem itAt_some {L : List It} {k : Nat} (h : k < L.length) : L[k]? = some (itAt L k) := by simp [itAt, List.getElem?_eq_getElem h]
/-- what the iterator hands on -/
def wcs (L : List It) (k : Nat) : Array Value :=
  #[.int .i64 k, .agg #[.int .i64 (itAt L k).kind, .int .i64 (itAt L k).w, .int .i64 (itAt L k).y, .int .i64 (itAt L k).z, .int .i64 (itAt L k).cost, .string (itAt L k).text]]

set_option maxRecDepth 100000 in
set_option maxHeartbeats 2000000 in
theorem within1_in (l B1 B2 B3 n c B cnt f t : Nat) (A : Option Addr) (L : List It) (from_ : Int) (hm : n ≤ 1000000000000) (X : Nat → Prop) (h1 : X B1) (h2 : X B2) (h3 : X B3) (hA : ∀ b o, A = some ⟨b, o, none⟩ → X b)
    (hf : fst L from_ = f) (ht : f + cnt = t) (htn : t ≤ n) (J Jx : List (Fin cnt) → World → Prop)
    (hY : ∀ pre x W, J pre W → pre.length < cnt → YieldAt Fence.wide 9 Try.prog l (wcs L (f + x.1)) W fun e W' =>
      (e = .returned (.bool true) ∧ J (pre ++ [x]) W' ∧ Hold X W W') ∨ (e = .returned (.bool false) ∧ Jx (pre ++ [x]) W'))
    (W : World) (hL : Sl W B 6 A n (encs L)) (hB1 : W.cell? ⟨B1, 0, none⟩ = some (.slice A n c)) (hB2 : W.cell? ⟨B2, 0, none⟩ = some (.int .i64 from_)) (hB3 : W.cell? ⟨B3, 0, none⟩ = some (.int .i64 t)) (h0 : J [] W) :
    CallsIn Fence.wide 10 Try.prog 45 #[.func (.yield l) #[] #[], .pointer (some ⟨B1, 0, none⟩), .pointer (some ⟨B2, 0, none⟩), .pointer (some ⟨B3, 0, none⟩)] W fun e W' => (∃ v, e = .returned v) ∧
      ((∃ ys, ys = List.finRange cnt ∧ J ys W') ∨ (∃ pre, (∃ k, k ≤ cnt ∧ pre = (List.finRange cnt).take k) ∧ Jx pre W')) := by
  have hl := its_len hL
  have hF := fun (W : World) (hW : Sl W B 6 A n (encs L)) => first_any (c := c) from_ (by omega) hW
  rw [hf] at hF
  refine callsIn_of_wp Try.func45 rfl trivial ?_ rfl
  simp only [Try.ntmps45, List.size_toArray, List.length_cons, List.length_nil, Nat.reduceAdd, Nat.reduceSub, Array.replicate_succ, Array.replicate_zero, List.push_toArray, List.append_toArray, List.nil_append, List.cons_append]
  gi_wp2_with fail
  refine ⟨trivial, ?_⟩
  refine (callsIn_wide.2 (hF W hL)).mono ?_
  rintro e w1 ⟨rfl, rfl⟩
  clear hF
  gi_wp2
  gi_loopw [5] (fun i wr => ∃ k : Nat, k ≤ cnt ∧ i = .int .i64 (f + k : Nat) ∧ J ((List.finRange cnt).take k) wr ∧ Hold X W wr)
    (fun i _ => t - (intOf i).toNat)
  case atStart => exact ⟨0, Nat.zero_le _, by simp, by simpa using h0, Hold.refl _ _⟩
  case round =>
    obtain ⟨k, hk, hi, hJs, hnx⟩ := hrel
    obtain ⟨q, hq⟩ : ∃ q, f + k = q := ⟨_, rfl⟩
    rw [hq] at hi
    subst hi
    have c1 := hnx.cell h1 hB1
    have c3 := hnx.cell h3 hB3
    by_cases hlt : k < cnt
    · have hx := itAt_some (L := L) (k := q) (by omega)
      obtain ⟨fn, tmps, assign, body, hy, hR⟩ := hY _ ⟨k, hlt⟩ wr hJs (by simp; omega)
      obtain ⟨b, o, rfl, hb, d0, d1, d2, d3, d4, d5⟩ := its_cells (hnx.sl hL hA) hx
      dsimp only at hy
      rw [hq] at hy
      simp only [wcs] at hy
      generalize itAt L q = x at *
      have hqn : q < n := by omega
      have g1 : (q : Int) < (t : Int) := by omega
      have g2 : (q : Int) < (n : Int) := by omega
      have g3 : (q : Int) ≤ 1000000000000 := by omega
      have HQ := Lib.hid hq
      clear hq ht hf hx
      gi_wp2
      refine hR.mono ?_
      rintro e W3 (⟨rfl, hJ3, hk3⟩ | ⟨rfl, hJx3⟩)
      · have c3' := hk3.cell h3 c3
        gi_wp2
        go_roundw
        case rel => exact ⟨k + 1, by omega, by have := HQ.out; go_num, by rw [take_finRange hlt] at hJ3; exact hJ3, hnx.trans hk3⟩
        case measure => simp [intOf]; omega
      · gi_wp2
        refine bodyPost_ret (results_none rfl _ _ _) rfl ?_
        exact ⟨⟨_, rfl⟩, .inr ⟨_, ⟨k + 1, by omega, take_finRange hlt⟩, hJx3⟩⟩
    · have g1 : ¬ (q : Int) < (t : Int) := by omega
      obtain rfl : k = cnt := by omega
      gi_wp2
      go_end0
      rw [take_finRange_all (Nat.le_refl _)] at hJs
      exact ⟨⟨_, rfl⟩, .inl (by simpa using hJs)⟩

theorem within_stops (B1 B2 B3 n c B cnt f t : Nat) (A : Option Addr) (L : List It) (from_ : Int) (hm : n ≤ 1000000000000) (X : Nat → Prop) (h1 : X B1) (h2 : X B2) (h3 : X B3) (hA : ∀ b o, A = some ⟨b, o, none⟩ → X b)
    (hf : fst L from_ = f) (ht : f + cnt = t) (htn : t ≤ n) (w : World) (hX : ∀ k, X k → k < w.heap.size)
    (hL : Sl w B 6 A n (encs L)) (hB1 : w.cell? ⟨B1, 0, none⟩ = some (.slice A n c)) (hB2 : w.cell? ⟨B2, 0, none⟩ = some (.int .i64 from_)) (hB3 : w.cell? ⟨B3, 0, none⟩ = some (.int .i64 t)) :
    SeqStopsK Fence.wide 10 Try.prog 45 #[.pointer (some ⟨B1, 0, none⟩), .pointer (some ⟨B2, 0, none⟩), .pointer (some ⟨B3, 0, none⟩)] (fun x : Fin cnt => wcs L (f + x.1)) (Hold X) (fun ys => ys = List.finRange cnt)
      (fun pre => ∃ k, k ≤ cnt ∧ pre = (List.finRange cnt).take k) cnt w := fun l J Jx W hW _ _ hY h0 =>
  have hh := Hold.of_below hW hX
  within1_in l B1 B2 B3 n c B cnt f t A L from_ hm X h1 h2 h3 hA hf ht htn J Jx hY W (hh.sl hL hA) (hh.cell h1 hB1) (hh.cell h2 hB2) (hh.cell h3 hB3) h0

/-- a block that is known whole, along the rounds -/
theorem blk_own {β : Type} {B s : Nat} {t : TypeId} (f : β → Array Value) (hs : s < B) : OwnFrom B (fun pre W => W.heap[s]? = some (.cells (f pre) t)) := fun pre W W' row h hg hr =>
  (hg.block s (Array.getElem?_eq_some_iff.1 h).1 (fun e => by have := (hr s e.symm).1; omega)).trans h
def its {cnt : Nat} (L : List It) (f : Nat) (pre : List (Fin cnt)) : List It := pre.map (fun x => itAt L (f + x.1))
theorem its_all {cnt : Nat} {L : List It} {f : Nat} (h : f + cnt ≤ L.length) : its L f (List.finRange cnt) = seg L f (f + cnt) := by
  apply List.ext_getElem
  · simp [its, seg]; omega
  · intro i h1 h2
    simp only [its, List.length_map, List.length_finRange] at h1
    simp [its, seg, itAt, List.getElem?_eq_getElem (show f + i < L.length by omega)]
theorem its_next {cnt : Nat} (L : List It) (f : Nat) (pre : List (Fin cnt)) (x : Fin cnt) : Sm.of (its L f (pre ++ [x])) = ⟨(Sm.of (its L f pre)).w + (itAt L (f + x.1)).wide, (Sm.of (its L f pre)).y + pl (itAt L (f + x.1)).y, (Sm.of (its L f pre)).z + pl (itAt L (f + x.1)).z⟩ := by
  simp [its, Sm.of, sumOf_append, sumOf]
theorem its_bd {cnt : Nat} (L : List It) (f : Nat) (pre : List (Fin cnt)) (h : pre.length ≤ cnt) : 0 ≤ (Sm.of (its L f pre)).w ∧ (Sm.of (its L f pre)).w ≤ 10000 * cnt ∧ 0 ≤ (Sm.of (its L f pre)).y ∧ (Sm.of (its L f pre)).y ≤ 10000 * cnt ∧ 0 ≤ (Sm.of (its L f pre)).z ∧ (Sm.of (its L f pre)).z ≤ 10000 * cnt := by
  have a := sumOf_bd It.wide_bd (its L f pre)
  have b := sumOf_bd (fun x => pl_bd x.y) (its L f pre)
  have c := sumOf_bd (fun x => pl_bd x.z) (its L f pre)
  have d : (its L f pre).length = pre.length := List.length_map ..
  simp only [Sm.of]
  omega
end Go.Proofs.Ytnojikbecohhfaa
