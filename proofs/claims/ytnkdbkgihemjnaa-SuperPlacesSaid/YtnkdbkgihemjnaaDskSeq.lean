/- disk.of: the loose writes of one block, one by one: the iterator's contract. -/
import Derived.Test.YtnkdbkgihemjnaaDskSync
import Derived.RangeFuncBound
import Derived.RangeFuncCalls
import Derived.RangeFuncLeaves
import Derived.RangeFuncNested
import Derived.Shelf.Abstract
import Derived.Shelf.RegionOpen
import Derived.OwnWalkIn
import Derived.TacticsInMore
import Derived.LoopNIn
import Derived.LoopIn
import Derived.Deep.CutRange
namespace Go.Proofs.Ytnkdbkgihemjnaa
set_option linter.unusedSimpArgs false
set_option linter.unusedVariables false
open Go.RowKit Go.Shelf
attribute [local go_sem] Oper.semAt_some

theorem wpList_load_mid_g {P : Program} {ops : Array Oper} {rest : List Oper} {o : Oper} {a : Act} {w : World} {Q : Exit → Act → World → Prop} (hw : Region.wanted o (yielded ops a.tmps) = true) (ty : TypeId) (x : Operand) (ho : o.op = .load ty x)
    (b off : Nat) (hx : a.eval x = .pointer (some ⟨b, off, none⟩)) (cs : List Value) (d : TypeDesc) (hc : w.rangeAt b off cs)
    (hu : P.underlying ty = some d) (hd : d.isRow = true) (hi : (P.info? ty).map (·.size) = some cs.length)
    (h : wpList P ops Q rest (a.put o.dst (.agg cs.toArray)) w) : wpList P ops Q (o :: rest) a w :=
  wpList_step fun _ hK => by rw [if_pos hw]; exact wp_load_mid ty x ho b off hx cs d hc hu hd hi (hK _ _ h)

/-- the blocks of X are as they were -/
def Hold (X : Nat → Prop) (W W' : World) : Prop := (∀ k, X k → W'.heap[k]? = W.heap[k]?) ∧ W.heap.size ≤ W'.heap.size
theorem Hold.refl (X : Nat → Prop) (W : World) : Hold X W W := ⟨fun _ _ => rfl, Nat.le_refl _⟩
theorem Hold.trans {X : Nat → Prop} {A B C : World} (h : Hold X A B) (k : Hold X B C) : Hold X A C := ⟨fun i hi => (k.1 i hi).trans (h.1 i hi), Nat.le_trans h.2 k.2⟩
theorem Hold.of_but {X Y : Nat → Prop} {n : Nat} {A B : World} (h : But n Y A B) (hx : ∀ k, X k → k < n ∧ ¬ Y k) : Hold X A B := ⟨fun k hk => h.block k (hx k hk).1 (hx k hk).2, h.size⟩
theorem Hold.of_below {X : Nat → Prop} {n : Nat} {A B : World} (h : Below n A B) (hx : ∀ k, X k → k < n) : Hold X A B := ⟨fun k hk => h.block k (hx k hk), h.size⟩
theorem Hold.obj {X : Nat → Prop} {w : World} (hx : ∀ k, X k → k < w.heap.size) (W : World) (l : Nat) (o o' : Obj) (hl : w.heap.size ≤ l) (h : W.heap[l]? = some o) (h1 : o.isCells = false) (h2 : o.isWalk = false) : Hold X W (W.putObj l o') :=
  Hold.of_below (belowK_b (Nat.le_refl _) W l o o' hl h h1 h2) hx
theorem Hold.blk {X : Nat → Prop} {W W' : World} (h : Hold X W W') {b : Nat} {o : Obj} (hb : X b) (hv : W.heap[b]? = some o) : W'.heap[b]? = some o := (h.1 b hb).trans hv
theorem Dk.hold {w w' : World} {base p B : Nat} {v : Value} {s : DS} (h : Dk w base p B v s) (hh : ∀ k, Own p B v k → w'.heap[k]? = w.heap[k]?) : Dk w' base p B v s := by
  refine ⟨(hh p (.inl rfl)).trans h.hd, (hh B (.inr (.inl rfl))).trans h.bl, ⟨h.lo.1, ?_⟩, h.pB, h.bp, h.bB, h.vp, h.vB, h.ok⟩
  rcases h.lo.2 with e | ⟨g, cap, cur, e, h1, h2, h3⟩
  · exact .inl e
  · exact .inr ⟨g, cap, cur, e, h1, (hh g (.inr (.inr (by rw [e]; rfl)))).trans h2, h3⟩
theorem grown_of_below {w w' : World} (h : Below w.heap.size w w') : w.grownBy w' none := ⟨h.os, h.tape, h.output, h.size, fun k hk _ => h.block k hk⟩

theorem of_any (p : Nat) (i : Int) (w : World) :
    Calls Try.prog 91 #[dp p, .int .i64 i] w fun e w' =>
      e = .returned (.func (.func 98) #[] #[.pointer (some ⟨w.heap.size, 0, none⟩), .pointer (some ⟨w.heap.size + 1, 0, none⟩)]) ∧
      (w.alloc (.cells #[dp p] 25)).alloc (.cells #[.int .i64 i] 3) = w' := by
  unfold dp
  go_enter Try.func91, Try.ntmps91
  go_wp2
  go_ret
  exact ⟨rfl, rfl⟩

def bkcs (x : Nat × Blk) : Array Value := #[.agg (bvs x.2).toArray]
/-- those of block i -/
def ofB (lo : List (Nat × Blk)) (i : Nat) : List (Nat × Blk) := lo.filter fun x => x.1 == i
theorem ofB_take {lo : List (Nat × Blk)} {i k : Nat} {x : Nat × Blk} (hx : lo[k]? = some x) : ofB (lo.take (k + 1)) i = ofB (lo.take k) i ++ (if x.1 = i then [x] else []) := by
  unfold ofB
  rw [List.take_add_one, hx, List.filter_append]
  congr 1
  by_cases h : x.1 = i
  · simp [h]
  · simp [h]
theorem ofB_len (lo : List (Nat × Blk)) (i k : Nat) : (ofB (lo.take k) i).length ≤ k := by
  have := List.length_filter_le (fun x : Nat × Blk => x.1 == i) (lo.take k)
  have := List.length_take_le k lo
  unfold ofB; omega
def lastIn (b : Blk) (l : List (Nat × Blk)) : Blk := l.foldl (fun _ x => x.2) b
theorem lastIn_snoc (b : Blk) (l : List (Nat × Blk)) (x : Nat × Blk) : lastIn b (l ++ [x]) = x.2 := by simp [lastIn]
theorem lastIn_of (lo : List (Nat × Blk)) (i : Nat) (b : Blk) : lastIn b (ofB lo i) = lastOf' lo i b := by
  induction lo generalizing b with
  | nil => rfl
  | cons y l ih =>
    unfold ofB at *
    rw [List.filter_cons]
    by_cases h : y.1 = i
    · simp only [h, beq_self_eq_true, if_true]
      show lastIn y.2 _ = lastOf' l i (if y.1 = i then y.2 else b)
      rw [if_pos h]; exact ih y.2
    · have hb : (y.1 == i) = false := by simp [h]
      simp only [hb, Bool.false_eq_true, if_false]
      show _ = lastOf' l i (if y.1 = i then y.2 else b)
      rw [if_neg h]; exact ih b
theorem lastIn_len {b : Blk} (hb : b.length = 128) {l : List (Nat × Blk)} (hl : ∀ x ∈ l, x.2.length = 128) : (lastIn b l).length = 128 := by
  induction l generalizing b with
  | nil => exact hb
  | cons y l ih => exact ih (hl y (by simp)) (fun x hx => hl x (by simp [hx]))

set_option maxRecDepth 100000 in
set_option maxHeartbeats 4000000 in
theorem of1_in (l D1 I1 i : Nat) {base p B : Nat} {v : Value} {s : DS} (X : Nat → Prop) (h1 : X D1) (h2 : X I1) (hX : ∀ k, Own p B v k → X k) (hlo : s.lo.length < 1000000) (J Jx : List {x // x ∈ s.lo} → World → Prop) (W : World)
    (hXW : ∀ k, X k → k < W.heap.size)
    (hJ : AbidesFrom W.heap.size J)
    (hY : ∀ pre x W, J pre W → pre.length < s.lo.length + 1 → YieldAt Fence.wide 9 Try.prog l (bkcs x.1) W fun e W' =>
      (e = .returned (.bool true) ∧ J (pre ++ [x]) W' ∧ Hold X W W') ∨ (e = .returned (.bool false) ∧ Jx (pre ++ [x]) W'))
    (hD1 : W.heap[D1]? = some (.cells #[dp p] 25)) (hI1 : W.heap[I1]? = some (.cells #[.int .i64 i] 3)) (hD : Dk W base p B v s) (h0 : J [] W) :
    CallsIn Fence.wide 10 Try.prog 98 #[.func (.yield l) #[] #[], .pointer (some ⟨D1, 0, none⟩), .pointer (some ⟨I1, 0, none⟩)] W fun e W' => (∃ v, e = .returned v) ∧
      ((∃ ys, ys.map Subtype.val = ofB s.lo i ∧ J ys W') ∨ (∃ pre, True ∧ Jx pre W')) := by
  obtain ⟨A, c, hv, hv1, hv2⟩ := hD.form
  have c1 := hD.hds.c1
  rw [hv] at c1
  have d0 := blk_cell hD1 (k := 0) rfl
  have HV := Lib.hid hv
  unfold dp at d0
  have hlen : s.lo.length ≤ maxLen := by omega
  clear hv
  refine callsIn_of_wp Try.func98 rfl trivial ?_ rfl
  simp only [Try.ntmps98, List.size_toArray, List.length_cons, List.length_nil, Nat.reduceAdd, Nat.reduceSub, Array.replicate_succ, Array.replicate_zero, List.push_toArray, List.append_toArray, List.nil_append, List.cons_append]
  gi_wp2
  gi_loopw [5, 11] (fun q n wr => ∃ (k : Nat) (pre : List {x // x ∈ s.lo}), n = .int .i64 k ∧ k ≤ s.lo.length ∧ pre.map Subtype.val = ofB (s.lo.take k) i ∧ J pre wr ∧ Hold X W wr) (fun _ n _ => s.lo.length - (intOf n).toNat)
  case atStart => exact ⟨0, [], rfl, by omega, rfl, h0, Hold.refl _ _⟩
  case round =>
    clear c1 d0
    obtain ⟨k, pre, rfl, hk, hpre, hJk, hH⟩ := hrel
    have HPRE := Lib.hid hpre
    have hplen : pre.length ≤ k := by have := ofB_len s.lo i k; rw [← hpre, List.length_map] at this; exact this
    clear hpre
    by_cases hlt : k < s.lo.length
    · obtain ⟨x, hx⟩ : ∃ x, s.lo[k]? = some x := ⟨_, List.getElem?_eq_getElem hlt⟩
      have hDr := hD.hold (fun j hj => hH.1 j (hX j hj))
      obtain ⟨L, cap, hv3, hcap, hL, hrow⟩ := hDr.loAt (k := k) (x := x) hx
      obtain ⟨rfl, rfl⟩ : A = some ⟨L, 0, none⟩ ∧ c = cap := by have e := HV.out.symm.trans hv3; simp only [Value.slice.injEq] at e; exact ⟨e.1, e.2.2⟩
      have hxo := hD.ok.lo x (List.mem_of_getElem? hx)
      have hnext := Lib.hid (ofB_take (i := i) hx)
      have hxm := List.mem_of_getElem? hx
      have g1 : (k : Int) < s.lo.length := by omega
      have hx2 := hxo.2
      have hI1r := hH.blk h2 hI1
      have hI1w := hXW _ h2
      have hHs := hH.2
      clear hv3 hx hDr
      have hwl : (wcs x).length = 129 := by unfold wcs; rw [List.length_cons, bvs_len, hx2]
      have hwi : (Try.prog.info? 112).map (·.size) = some (wcs x).length := by rw [hwl]; kernel_rfl
      have hone : (wcs x).toArray.all (·.oneCell') = true := all_oneCell_toArray (fun u hu => one_lcs [x] u (by unfold lcs; rw [List.flatMap_cons, List.flatMap_nil, List.append_nil]; exact hu))
      obtain ⟨Y, hY'⟩ : ∃ Y, World.setRow (wr.alloc (.cells (Value.int .i64 0 :: bvs zblk).toArray 112)) wr.heap.size (wcs x).toArray = Y := ⟨_, rfl⟩
      have hBY : Below wr.heap.size wr Y := by rw [← hY']; exact bSetRow ((Below.refl _ _).alloc (Nat.le_refl _) _) (Nat.le_refl _) _
      have hYb : Y.heap[wr.heap.size]? = some (.cells (wcs x).toArray 112) := by rw [← hY']; exact setRow_heap _ _ _ _ _ _ (heap_alloc_new _ _)
      have hJ2 := hJ _ _ _ none hJk (grown_of_below hBY) (fun r e => by cases e)
      have hH2 := hH.trans (Hold.of_below hBY (fun j hj => by have := hXW j hj; omega))
      have hd0 : Y.cell? ⟨wr.heap.size, 0, none⟩ = some (.int .i64 (x.1 : Int)) := blk_cell hYb (by unfold wcs; rfl)
      have hd1 : Y.rangeAt wr.heap.size 1 (bvs x.2) := fun j u hj => by rw [Nat.add_comm]; exact blk_cell hYb (by unfold wcs; simpa using hj)
      have hd2 := blk_cell (bBlk hBY (by omega) hI1r) (k := 0) rfl
      clear hBY hYb
      by_cases hxi : x.1 = i
      · have g2 : (x.1 : Int) = i := by omega
        have hd3 : decide ((x.1 : Int) = i) = true := decide_eq_true g2
        rw [if_pos hxi] at hnext
        obtain ⟨fn, tmps, assign, body, hy, hR⟩ := hY pre ⟨x, hxm⟩ Y hJ2 (by omega)
        simp only [bkcs] at hy
        rw [g2] at hd0
        clear hd3 g2 hI1r hD hD1 hI1
        gi_wp2_with (first
          | (refine wpListIn_val rfl (fun c e => by cases e) rfl (exec_load_row (x := .tmp 13) rfl rfl hrow Try.underlying112 rfl hwi) ?_)
          | (refine wpListIn_val rfl (fun c e => by cases e) rfl (exec_new wrZ rfl _) ?_)
          | (refine wpListIn_skip rfl (fun c e => by cases e) rfl (exec_store_row (x := .tmp 5) (y := .tmp 14) rfl rfl rfl (heap_alloc_new _ _) (by rw [List.size_toArray]; exact hwi) (by rw [wrZ_size, List.size_toArray, hwl]) hone) ?_)
          | (refine wpListIn_val (by simp [Region.wanted, yielded, Act.put]) (fun c e => by cases e) rfl (exec_load_row (x := .tmp 21) rfl rfl hd1 Try.underlying40 rfl (bk_len hx2)) ?_) | fail)
        refine hR.mono ?_
        rintro e W3 (⟨rfl, hJ3, hk3⟩ | ⟨rfl, hJx3⟩)
        · gi_wp2
          go_roundw
          case rel => exact ⟨k + 1, pre ++ [⟨x, hxm⟩], by go_num, by omega, by rw [hnext.out, List.map_append, HPRE.out]; rfl, hJ3, hH2.trans hk3⟩
          case measure => simp [intOf]; omega
        · gi_wp2
          refine bodyPost_ret (results_none rfl _ _ _) rfl ?_
          exact ⟨⟨_, rfl⟩, .inr ⟨_, trivial, hJx3⟩⟩
      · have g2 : ¬ (x.1 : Int) = i := by omega
        rw [if_neg hxi, List.append_nil] at hnext
        clear hI1r hD hD1 hI1
        gi_wp2_with (first
          | (refine wpListIn_val rfl (fun c e => by cases e) rfl (exec_load_row (x := .tmp 13) rfl rfl hrow Try.underlying112 rfl hwi) ?_)
          | (refine wpListIn_val rfl (fun c e => by cases e) rfl (exec_new wrZ rfl _) ?_)
          | (refine wpListIn_skip rfl (fun c e => by cases e) rfl (exec_store_row (x := .tmp 5) (y := .tmp 14) rfl rfl rfl (heap_alloc_new _ _) (by rw [List.size_toArray]; exact hwi) (by rw [wrZ_size, List.size_toArray, hwl]) hone) ?_)
          | fail)
        refine ⟨fun _ _ => trivial, ?_⟩
        gi_wp2
        go_roundw
        case rel => exact ⟨k + 1, pre, by go_num, by omega, by rw [hnext.out]; exact HPRE.out, hJ2, hH2⟩
        case measure => simp [intOf]; omega
    · obtain rfl : k = s.lo.length := by omega
      have hpre := HPRE.out
      rw [List.take_length] at hpre
      clear HPRE
      gi_wp2
      refine bodyPost_end (results_none rfl _ _ _) rfl ?_
      exact ⟨⟨_, rfl⟩, .inl ⟨_, hpre, hJk⟩⟩
theorem of_stops (D1 I1 i : Nat) {base p B : Nat} {v : Value} {s : DS} (X : Nat → Prop) (h1 : X D1) (h2 : X I1) (hX : ∀ k, Own p B v k → X k) (hlo : s.lo.length < 1000000) (w : World) (hXw : ∀ k, X k → k < w.heap.size)
    (hD1 : w.heap[D1]? = some (.cells #[dp p] 25)) (hI1 : w.heap[I1]? = some (.cells #[.int .i64 i] 3)) (hD : Dk w base p B v s) :
    SeqStopsK Fence.wide 10 Try.prog 98 #[.pointer (some ⟨D1, 0, none⟩), .pointer (some ⟨I1, 0, none⟩)] (fun x : {x // x ∈ s.lo} => bkcs x.1) (Hold X) (fun ys => ys.map Subtype.val = ofB s.lo i) (fun _ => True) (s.lo.length + 1) w := fun l J Jx W hW hJ _ hY h0 =>
  have hh := Hold.of_below hW hXw
  of1_in l D1 I1 i X h1 h2 hX hlo J Jx W (fun k hk => Nat.lt_of_lt_of_le (hXw k hk) hW.size) hJ (fun pre x V hV hl => hY pre x V hV hl) (hh.blk h1 hD1) (hh.blk h2 hI1) (hD.below hW) h0
end Go.Proofs.Ytnkdbkgihemjnaa
