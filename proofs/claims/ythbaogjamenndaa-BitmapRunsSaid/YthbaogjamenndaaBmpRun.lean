/- The walk over bitmap.Run. -/
import Derived.Test.YthbaogjamenndaaBmpSeq
import Derived.Test.YthbaogjamenndaaBmpRRun
import Derived.BigFrameIn
namespace Go.Proofs.Ythbaogjamenndaa
set_option linter.unusedSimpArgs false
set_option linter.unusedVariables false
open Go.RowKit Go.Shelf
attribute [local go_sem] Oper.semAt_some

theorem wpListIn_load_row {P : Program} {n : Nat} {ops : Array Oper} {rest : List Oper} {o : Oper} {a : Act} {w : World} {Q : Exit → Act → World → Prop} (hgd : o.guard = none) (ty : TypeId) (x : Operand) (ho : o.op = .load ty x)
    (g : Nat) (hx : a.eval x = .pointer (some ⟨g, 0, none⟩)) (t : TypeId) (cs : Array Value) (fr : Nat × Nat) (d : TypeDesc) (hg : w.heap[g]? = some (.cells cs t fr))
    (hu : P.underlying ty = some d) (hd : (match d with | .struct _ | .array _ _ => true | _ => false) = true) (hi : (P.info? ty).map (·.size) = some cs.size)
    (h : wpListIn Fence.wide n P ops Q rest (a.put o.dst (.agg cs)) w) : wpListIn Fence.wide n P ops Q (o :: rest) a w :=
  BigFrame.wpListIn_want (by simp only [Region.wanted, hgd]) fun K hK => by
    refine ⟨fun _ _ => trivial, ?_⟩
    rw [Oper.semAt_eq _ _ _ (by rw [ho]; intro c e; cases e)]
    unfold execOp
    simp only [ho, hx, Instr.loadAt, Instr.sureAddr, Sem.run_bind, Sem.run_pure, Result.andThen_ok, run_loadVar_row w g t ty cs fr d hg hu hd hi]
    exact hK _ _ h
def Grow (X : Nat → Prop) (W W' : World) : Prop := Hold X W W' ∧ W.heap.size ≤ W'.heap.size
theorem runs_stops (B1 B2 k : Nat) (m : List UInt8) (hm : m.length = 16) (hk : k ≤ 128) (X : Nat → Prop) (h1 : X B1) (h2 : X B2) (w : World) (hX : ∀ i, X i → i < w.heap.size)
    (hB1 : w.heap[B1]? = some (.cells #[.int .i64 k] 3)) (hB2 : w.heap[B2]? = some (.cells (bvs m).toArray 23)) :
    SeqStopsK Fence.wide 10 Try.prog 51 #[.pointer (some ⟨B1, 0, none⟩), .pointer (some ⟨B2, 0, none⟩)] rcs (Grow X) (fun ys => ys = runsAt m k 0) (fun pre => ∃ rest, runsAt m k 0 = pre ++ rest) (k + 1) w := fun l J Jx W hW hJ _ hY h0 =>
  have hh := Hold.of_below hW hX
  runs1_in l B1 B2 k m hm hk X h1 h2 J Jx W (fun i hi => Nat.lt_of_lt_of_le (hX i hi) hW.size) hJ (fun pre x V hV hl => (hY pre x V hV hl)) (hh.blk h1 hB1) (hh.blk h2 hB2) h0

theorem blk_own {β : Type} {B s : Nat} {t : TypeId} (f : β → Array Value) (hs : s < B) : OwnFrom B (fun pre W => W.heap[s]? = some (.cells (f pre) t)) := fun pre W W' row h hg hr =>
  (hg.block s (Array.getElem?_eq_some_iff.1 h).1 (fun e => by have := (hr s e.symm).1; omega)).trans h
def lastOf (pre : List (Nat × Nat)) : Nat × Nat := pre.getLast?.getD (0, 0)
def AllLt (n : Nat) (pre : List (Nat × Nat)) : Prop := ∀ x ∈ pre, x.2 < n
def Found (n : Nat) (pre : List (Nat × Nat)) : Prop := ∃ pre' x, pre = pre' ++ [x] ∧ (∀ y ∈ pre', y.2 < n) ∧ n ≤ x.2

theorem run_arg {m : List UInt8} (hm : m.length = 16) (k n : Int) (harg : n < 1 ∨ k < 1 ∨ 128 < k) (w : World) :
    Calls Try.prog 16 #[bmv m, .int .i64 k, .int .i64 n] w (Ret w (.tuple #[.int .i64 (runR m k n).1, .int .i64 (runR m k n).2])) := by
  have HV := Lib.hid (runR_arg (m := m) harg)
  unfold bmv
  have key : (n < 1) ∨ (¬ n < 1 ∧ k < 1) ∨ (¬ n < 1 ∧ ¬ k < 1 ∧ 128 < k) := by omega
  clear harg
  rcases key with k1 | ⟨k1, k2⟩ | ⟨k1, k2, k3⟩
  · go_enter Try.func16, Try.ntmps16
    go_wp2
    go_returns
    exact Ret.mk (by rw [HV.out]) (by repeat (first | (with_reducible exact Below.refl _ _) | (with_reducible refine bDrewN ?_ _) | (with_reducible refine Below.drew ?_) | (with_reducible refine Below.alloc ?_ ?_ _) | (with_reducible refine Below.setCell ?_ ?_ _) | (with_reducible assumption) | go_size))
  · go_enter Try.func16, Try.ntmps16
    go_wp2
    go_returns
    exact Ret.mk (by rw [HV.out]) (by repeat (first | (with_reducible exact Below.refl _ _) | (with_reducible refine bDrewN ?_ _) | (with_reducible refine Below.drew ?_) | (with_reducible refine Below.alloc ?_ ?_ _) | (with_reducible refine Below.setCell ?_ ?_ _) | (with_reducible assumption) | go_size))
  · go_enter Try.func16, Try.ntmps16
    go_wp2
    go_returns
    exact Ret.mk (by rw [HV.out]) (by repeat (first | (with_reducible exact Below.refl _ _) | (with_reducible refine bDrewN ?_ _) | (with_reducible refine Below.drew ?_) | (with_reducible refine Below.alloc ?_ ?_ _) | (with_reducible refine Below.setCell ?_ ?_ _) | (with_reducible assumption) | go_size))

set_option maxHeartbeats 4000000 in
set_option maxRecDepth 100000 in
theorem run_ok {m : List UInt8} (hm : m.length = 16) (k n : Nat) (h1 : 1 ≤ n) (h2 : 1 ≤ k) (h3 : k ≤ 128) (w : World) :
    Calls Try.prog 16 #[bmv m, .int .i64 k, .int .i64 n] w (Ret w (.tuple #[.int .i64 (runR m k n).1, .int .i64 (runR m k n).2])) := by
  have k1 : ¬ (n : Int) < 1 := by omega
  have k2 : ¬ (k : Int) < 1 := by omega
  have k3 : ¬ (128 : Int) < k := by omega
  have hrs := fun W => runs_any (m := m) k W
  unfold bmv at hrs ⊢
  refine (callsIn_wide (n := 11)).1 ?_
  refine callsIn_of_wp_marks Try.func16 rfl trivial ?_ rfl
  simp only [Try.ntmps16, List.size_toArray, List.length_cons, List.length_nil, Nat.reduceAdd, Nat.reduceSub, Array.replicate_succ, Array.replicate_zero, List.push_toArray, List.append_toArray, List.nil_append, List.cons_append]
  have hnew : ∀ X Y Z : Obj, (World.alloc (World.alloc (World.alloc (World.alloc w (.cells (bvs m).toArray 23)) X) Y) Z).heap[w.heap.size]? = some (.cells (bvs m).toArray 23) := fun X Y Z =>
    (Below.heap_alloc _ _ _ (by simp <;> omega)).trans ((Below.heap_alloc _ _ _ (by simp <;> omega)).trans ((Below.heap_alloc _ _ _ (by simp)).trans (heap_alloc_new _ _)))
  gi_wp2_with (first | (refine wpListIn_load_row rfl 23 (.tmp 3) rfl _ rfl _ (bvs m).toArray (0, 0) _ (hnew _ _ _) Try.underlying23 rfl (bm_info hm) ?_) | fail)
  refine ⟨trivial, ?_⟩
  refine (callsIn_wide.2 (hrs _)).mono ?_
  rintro e w' ⟨rfl, rfl⟩
  clear hrs hnew
  gi_wp2
  generalize hW : World.alloc (World.alloc (World.alloc (World.alloc (World.alloc (World.alloc w _) _) _) _) _) _ = W1
  have hz : w.heap.size + 6 ≤ W1.heap.size := by rw [← hW]; simp
  have b5 : W1.heap[w.heap.size + 1]? = some (.cells #[.int .i64 n] 3) := by
    rw [← hW]; exact (Below.heap_alloc _ _ _ (by simp <;> omega)).trans ((Below.heap_alloc _ _ _ (by simp <;> omega)).trans ((Below.heap_alloc _ _ _ (by simp <;> omega)).trans ((Below.heap_alloc _ _ _ (by simp <;> omega)).trans (heap_alloc_new2 _ _ _))))
  have b6 : W1.heap[w.heap.size + 1 + 1]? = some (.cells #[.int .i64 0] 3) := by
    have e := heap_alloc_new2 (w.alloc (.cells (bvs m).toArray 23)) (.cells #[.int .i64 n] 3) (.cells #[.int .i64 0] 3)
    rw [World.size_alloc] at e
    rw [← hW]; exact (Below.heap_alloc _ _ _ (by simp <;> omega)).trans ((Below.heap_alloc _ _ _ (by simp <;> omega)).trans ((Below.heap_alloc _ _ _ (by simp <;> omega)).trans e))
  have b7 : W1.heap[w.heap.size + 1 + 1 + 1]? = some (.cells #[.int .i64 0] 25) := by
    have e := heap_alloc_new2 ((w.alloc (.cells (bvs m).toArray 23)).alloc (.cells #[.int .i64 n] 3)) (.cells #[.int .i64 0] 3) (.cells #[.int .i64 0] 25)
    rw [World.size_alloc, World.size_alloc] at e
    rw [← hW]; exact (Below.heap_alloc _ _ _ (by simp <;> omega)).trans ((Below.heap_alloc _ _ _ (by simp <;> omega)).trans e)
  have bM : W1.heap[w.heap.size + 1 + 1 + 1 + 1]? = some (.cells (bvs m).toArray 23) := by
    have e := heap_alloc_new2 (((w.alloc (.cells (bvs m).toArray 23)).alloc (.cells #[.int .i64 n] 3)).alloc (.cells #[.int .i64 0] 3)) (.cells #[.int .i64 0] 25) (.cells (bvs m).toArray 23)
    rw [World.size_alloc, World.size_alloc, World.size_alloc] at e
    rw [← hW]; exact (Below.heap_alloc _ _ _ (by simp <;> omega)).trans e
  have bK : W1.heap[w.heap.size + 1 + 1 + 1 + 1 + 1]? = some (.cells #[.int .i64 k] 3) := by
    have e := heap_alloc_new2 ((((w.alloc (.cells (bvs m).toArray 23)).alloc (.cells #[.int .i64 n] 3)).alloc (.cells #[.int .i64 0] 3)).alloc (.cells #[.int .i64 0] 25)) (.cells (bvs m).toArray 23) (.cells #[.int .i64 k] 3)
    rw [World.size_alloc, World.size_alloc, World.size_alloc, World.size_alloc] at e
    rw [← hW]; exact e
  have hB0 : Below w.heap.size w W1 := by rw [← hW]; exact ((((((Below.refl _ w).alloc (Nat.le_refl _) _).alloc (by simp) _).alloc (by simp <;> omega) _).alloc (by simp <;> omega) _).alloc (by simp <;> omega) _).alloc (by simp <;> omega) _
  clear hW
  gi_wp2
  let X : Nat → Prop := fun i => i = w.heap.size + 1 + 1 + 1 + 1 ∨ i = w.heap.size + 1 + 1 + 1 + 1 + 1
  have hXW : ∀ i, X i → i < W1.heap.size := fun i hi => by simp only [X] at hi; omega
  have hXs : ∀ i, X i → ¬ (i = w.heap.size + 1 + 1 ∨ i = w.heap.size + 1 + 1 + 1) := fun i hi => by simp only [X] at hi; omega
  refine wpIn_rangeFunc_ownG rfl (by omega) (gf := 51) (lb := #[.pointer (some ⟨w.heap.size + 1 + 1 + 1 + 1 + 1, 0, none⟩), .pointer (some ⟨w.heap.size + 1 + 1 + 1 + 1, 0, none⟩)]) rfl trivial (enters_of Try.func51 (by kernel_rfl) rfl)
    (runs_stops (w.heap.size + 1 + 1 + 1 + 1 + 1) (w.heap.size + 1 + 1 + 1 + 1) k m hm h3 X (.inr rfl) (.inl rfl) W1 hXW bK bM) (fun h k => ⟨h.1.trans k.1, Nat.le_trans h.2 k.2⟩) (fun W l o o' hl h a c => ⟨Hold.obj (w := W1) hXW W l o o' hl h a c, by simp⟩) (Below.refl _ _) (fun _ => rfl)
    (fun (pre : List (Nat × Nat)) W => AllLt n pre ∧ But W1.heap.size (fun _ => False) W1 W)
    (fun c pre W => (c = .ret ∧ Found n pre) ∧ W.heap[w.heap.size + 1 + 1]? = some (.cells #[.int .i64 ((lastOf pre).1 : Nat)] 3) ∧ W.heap[w.heap.size + 1 + 1 + 1]? = some (.cells #[.int .i64 0] 25) ∧ But W1.heap.size (fun i => i = w.heap.size + 1 + 1 ∨ i = w.heap.size + 1 + 1 + 1) W1 W)
    (OwnFrom.and (fun _ _ _ _ h _ _ => h) (But.own (a := W1) (n := W1.heap.size) (X := fun _ => False) (Nat.le_refl _) (Nat.le_refl _)))
    (fun c => OwnFrom.and (fun _ _ _ _ h _ _ => h) (OwnFrom.and (blk_own (fun pre : List (Nat × Nat) => #[.int .i64 ((lastOf pre).1 : Nat)]) (by omega)) (OwnFrom.and (blk_own (fun _ => #[.int .i64 0]) (by omega)) (But.own (a := W1) (n := W1.heap.size) (X := fun i => i = w.heap.size + 1 + 1 ∨ i = w.heap.size + 1 + 1 + 1) (Nat.le_refl _) (Nat.le_refl _)))))
    ⟨fun _ h => (by simp at h), But.refl _ _ _⟩
    ?a1 ?assign ?body ?done ?stop
  case assign =>
    intro l0 x W K hK
    simp only [rcs]
    gi_wp2
    exact hK
  case body =>
    rintro l0 pre x W ⟨hpre, hB⟩ hlt
    have c5 := blk_cell (hB.blk (by omega) id b5) (k := 0) rfl
    have c6 := hB.blk (by omega) id b6
    have c7 := hB.blk (by omega) id b7
    have hsz := hB.size
    obtain ⟨xf, xn⟩ := x
    by_cases hxn : n ≤ xn
    · have g1 : (n : Int) ≤ xn := by omega
      have c60 := blk_cell c6 (k := 0) rfl
      have c70 := blk_cell c7 (k := 0) rfl
      have f60 := blk_frozen c6 0
      have f70 := blk_frozen c7 0
      gi_wp2
      generalize hW9 : World.setCell (World.setCell W _ _) _ _ = W9
      have x9 : W9.heap[w.heap.size + 1 + 1]? = some (.cells #[.int .i64 ((xf : Nat) : Int)] 3) := by rw [← hW9]; exact blk_far (blk_set c6 0 _) _ (by simp)
      have y9 : W9.heap[w.heap.size + 1 + 1 + 1]? = some (.cells #[.int .i64 0] 25) := by rw [← hW9]; exact blk_set (blk_far c7 _ (by simp)) 0 _
      have h9 : But W1.heap.size (fun i => i = w.heap.size + 1 + 1 ∨ i = w.heap.size + 1 + 1 + 1) W W9 := by rw [← hW9]; exact ((But.refl _ _ W).set (p := ⟨w.heap.size + 1 + 1, 0, none⟩) (.inl rfl) _).set (p := ⟨w.heap.size + 1 + 1 + 1, 0, none⟩) (.inr rfl) _
      have k9 : KeepsOthers W W9 := by rw [← hW9]; exact (KeepsOthers.setCell _ _ _).trans (KeepsOthers.setCell _ _ _)
      have hBX : But W1.heap.size (fun i => i = w.heap.size + 1 + 1 ∨ i = w.heap.size + 1 + 1 + 1) W1 W := ⟨hB.os, hB.tape, hB.output, hB.size, fun i hi _ => hB.block i hi id⟩
      refine ⟨k9.from _, ⟨rfl, pre, (xf, xn), rfl, hpre, hxn⟩, ?_, y9, hBX.trans h9⟩
      rw [show lastOf (pre ++ [(xf, xn)]) = (xf, xn) from by simp [lastOf]]
      exact x9
    · have g1 : ¬ (n : Int) ≤ xn := by omega
      gi_wp2
      refine ⟨KeepsFrom.refl _ _, ⟨Hold.refl _ _, Nat.le_refl _⟩, fun y hy => ?_, hB⟩
      rcases List.mem_append.1 hy with h | h
      · exact hpre y h
      · simp at h; subst h; show xn < n; omega
  case done =>
    rintro D ys W hD rfl ⟨hall, hB⟩ hK
    have HV : Hid (runR m k n = (0, 14)) := Lib.hid (runR_none h1 h2 h3 (runs_none h1 hall))
    have c6 := hB.blk (by omega) id b6
    have c7 := hB.blk (by omega) id b7
    have c60 := blk_cell c6 (k := 0) rfl
    have c70 := blk_cell c7 (k := 0) rfl
    have f60 := blk_frozen c6 0
    have f70 := blk_frozen c7 0
    have hBW : Below w.heap.size w W := hB0.trans (hB.below (by omega) (fun i e => e.elim))
    have d1 : w.heap.size + 1 + 1 ≠ D := by omega
    have d2 : w.heap.size + 1 + 1 + 1 ≠ D := by omega
    gi_wp2
    generalize hW9 : World.setCell (World.setCell W _ _) _ _ = W9
    have x9 : W9.heap[w.heap.size + 1 + 1]? = some (.cells #[.int .i64 0] 3) := by rw [← hW9]; exact blk_far (blk_set c6 0 _) _ (by simp)
    have y9 : W9.heap[w.heap.size + 1 + 1 + 1]? = some (.cells #[.int .i64 14] 25) := by rw [← hW9]; exact blk_set (blk_far c7 _ (by simp)) 0 _
    have hK9 : W9.heap[D]? = some (.deferred (some [])) := by rw [← hW9]; exact blk_far (blk_far hK _ d1.symm) _ d2.symm
    have hB9 : Below w.heap.size w W9 := by rw [← hW9]; exact (hBW.setCell (p := ⟨w.heap.size + 1 + 1, 0, none⟩) (by show w.heap.size ≤ w.heap.size + 1 + 1; omega) _).setCell (p := ⟨w.heap.size + 1 + 1 + 1, 0, none⟩) (by show w.heap.size ≤ w.heap.size + 1 + 1 + 1; omega) _
    clear hW9
    refine ⟨by simp, .inl ⟨_, _, rfl, run_takeDeferred hK9, ?_⟩⟩
    have hBp := hB9.trans (belowK_b (w := w) (Nat.le_refl _) W9 D _ (.deferred none) (by omega) hK9 rfl rfl)
    have z0 := blk_cell (blk_put (o' := .deferred none) x9 d1) (k := 0) rfl
    have z1 := blk_cell (blk_put (o' := .deferred none) y9 d2) (k := 0) rfl
    refine ⟨_, by simp [results, Try.results16, go_sem, z0, z1]; rfl, Ret.mk (by rw [HV.out]) hBp⟩
  case stop =>
    rintro D c pre W hD ⟨rest, hrest⟩ ⟨⟨rfl, pre', x, rfl, hp', hx⟩, x9, y9, hB⟩ hK
    have HV : Hid (runR m k n = ((x.1 : Int), 0)) := Lib.hid (runR_some h1 h2 h3 (runs_found h1 (rest := rest) (by rw [hrest]; simp) hp' hx))
    rw [show lastOf (pre' ++ [x]) = x from by simp [lastOf]] at x9
    have hBW : Below w.heap.size w W := hB0.trans (hB.below (by omega) (fun i e => by omega))
    have d1 : w.heap.size + 1 + 1 ≠ D := by omega
    have d2 : w.heap.size + 1 + 1 + 1 ≠ D := by omega
    gi_wp2
    refine ⟨by simp, .inl ⟨_, _, rfl, run_takeDeferred hK, ?_⟩⟩
    have hBp := hBW.trans (belowK_b (w := w) (Nat.le_refl _) W D _ (.deferred none) (by omega) hK rfl rfl)
    have z0 := blk_cell (blk_put (o' := .deferred none) x9 d1) (k := 0) rfl
    have z1 := blk_cell (blk_put (o' := .deferred none) y9 d2) (k := 0) rfl
    refine ⟨_, by simp [results, Try.results16, go_sem, z0, z1]; rfl, Ret.mk (by rw [HV.out]) hBp⟩

theorem run_any {m : List UInt8} (hm : m.length = 16) (k n : Int) (w : World) :
    Calls Try.prog 16 #[bmv m, .int .i64 k, .int .i64 n] w (Ret w (.tuple #[.int .i64 (runR m k n).1, .int .i64 (runR m k n).2])) := by
  by_cases h : n < 1 ∨ k < 1 ∨ 128 < k
  · exact run_arg hm k n h w
  · obtain ⟨a, rfl⟩ : ∃ a : Nat, k = (a : Int) := ⟨k.toNat, by omega⟩
    obtain ⟨b, rfl⟩ : ∃ b : Nat, n = (b : Int) := ⟨n.toNat, by omega⟩
    exact run_ok hm a b (by omega) (by omega) (by omega) w
end Go.Proofs.Ythbaogjamenndaa
