/- All pieces of a sheet: the iterator over them. -/
import Derived.Test.YtiffcdeagckgmaaDoorShMarks
namespace Go.Proofs.YtiffcdeagckgmaaDoor
set_option linter.unusedSimpArgs false
set_option linter.unusedVariables false
open Go.RowKit Go.Shelf
attribute [local go_sem] Oper.semAt_some

def HoldS (X : Nat → Prop) (W W' : World) : Prop := Hold X W W' ∧ W.heap.size ≤ W'.heap.size
theorem HoldS.refl (X : Nat → Prop) (W : World) : HoldS X W W := ⟨Hold.refl _ _, Nat.le_refl _⟩
theorem HoldS.trans {X : Nat → Prop} {A B C : World} (h : HoldS X A B) (k : HoldS X B C) : HoldS X A C := ⟨h.1.trans k.1, Nat.le_trans h.2 k.2⟩
theorem HoldS.of_below {X : Nat → Prop} {n : Nat} {A B : World} (h : Below n A B) (hx : ∀ k, X k → k < n) : HoldS X A B := ⟨Hold.of_below h hx, h.size⟩
theorem grown_of_below {w w' : World} (h : Below w.heap.size w w') : w.grownBy w' none := ⟨h.os, h.tape, h.output, h.size, fun k hk _ => h.block k hk⟩
theorem RnAt.hold {X : Nat → Prop} {w w' : World} {B : Nat} {A : Option Addr} {n c : Nat} {l : List (LN × List PC)} (h : RnAt w B A n c l) (hk : Hold X w w') (hX : ∀ k, k < B → X k) : RnAt w' B A n c l := by
  have hs : ∀ {sz m : Nat} {A : Option Addr} {xs : List Value}, Sl w B sz A m xs → Sl w' B sz A m xs := fun hs => ⟨hs.len, fun hn => by
    obtain ⟨b, o, e, hb, hr⟩ := hs.at_ hn
    exact ⟨b, o, e, hb, fun j v hv => hk.cell (hX b hb) (hr j v hv)⟩⟩
  exact ⟨⟨h.ln.len, hs h.ln.sl, h.ln.cap, h.ln.wide⟩, fun r hr => by
    obtain ⟨A', n', c', h1, h2⟩ := h.pc r hr
    exact ⟨A', n', c', h1, ⟨h2.wide, h2.len, hs h2.sl, h2.cap, h2.most⟩⟩⟩
/-- all pieces of all lines -/
def flatP (l : List (LN × List PC)) : List PC := l.flatMap (·.2)
def pcv (p : PC) : Array Value := #[.agg p.cells.toArray]
theorem flatP_next {l : List (LN × List PC)} {i : Nat} {r : LN × List PC} (h : l[i]? = some r) : flatP (l.take (i + 1)) = flatP (l.take i) ++ r.2 := by
  unfold flatP
  rw [List.take_add_one, h, List.flatMap_append]
  simp
theorem flatP_pre {l : List (LN × List PC)} {i : Nat} {r : LN × List PC} (h : l[i]? = some r) : ∃ t, flatP l = (flatP (l.take i) ++ r.2) ++ t := by
  refine ⟨flatP (l.drop (i + 1)), ?_⟩
  rw [← flatP_next h]
  unfold flatP
  rw [← List.flatMap_append, List.take_append_drop]
theorem pc_info2 (x : PC) : (Tryd.prog.info? 47).map (·.size) = some x.cells.length := pc_size
theorem one_pc (x : PC) : x.cells.toArray.all (·.oneCell') = true := all_oneCell_toArray (fun u hu => one_pcs [x] u (by simpa [pcs] using hu))
theorem pcZ' : ZeroIs Tryd.prog 47 #[.int .i64 0, .string ⟨#[]⟩] := by unfold ZeroIs; kernel_rfl

theorem pieces_any (cs : Array Value) (w : World) :
    Calls Tryd.prog 27 #[.agg cs] w fun e w' => e = .returned (.func (.func 32) #[] #[.pointer (some ⟨w.heap.size, 0, none⟩)]) ∧ w.alloc (.cells cs 24) = w' := by
  go_enter Tryd.func27, Tryd.ntmps27
  go_wp2
  go_ret
  exact ⟨rfl, rfl⟩

set_option maxRecDepth 100000 in
set_option maxHeartbeats 8000000 in
theorem pieces1_in (l0 B0 B n c : Nat) (A : Option Addr) (num : Value) (l : List (LN × List PC)) (hn : n ≤ 1000000) (X : Nat → Prop) (hX : ∀ k, k < B → X k) (hX0 : X B0) (J Jx : List PC → World → Prop) (W : World)
    (hXW : ∀ k, X k → k < W.heap.size)
    (hJ : AbidesFrom W.heap.size J)
    (hY : ∀ pre p W, J pre W → pre.length < (flatP l).length → YieldAt Fence.wide 9 Tryd.prog l0 (pcv p) W fun e W' =>
      (e = .returned (.bool true) ∧ J (pre ++ [p]) W' ∧ HoldS X W W') ∨ (e = .returned (.bool false) ∧ Jx (pre ++ [p]) W'))
    (hL : RnAt W B A n c l) (hB0 : W.heap[B0]? = some (.cells #[num, .slice A n c] 24)) (h0 : J [] W) :
    CallsIn Fence.wide 10 Tryd.prog 32 #[.func (.yield l0) #[] #[], .pointer (some ⟨B0, 0, none⟩)] W fun e W' => (∃ v, e = .returned v) ∧
      ((∃ ys, ys = flatP l ∧ J ys W') ∨ (∃ pre, (∃ t, flatP l = pre ++ t) ∧ Jx pre W')) := by
  have c1 : W.cell? ⟨B0, 1, none⟩ = some (.slice A n c) := blk_cell hB0 rfl
  have HL := Lib.hid (And.intro hL hL.len)
  have hBW : B ≤ W.heap.size := by
    rcases Nat.lt_or_ge W.heap.size B with h | h
    · have := hXW _ (hX _ h); omega
    · exact h
  have HY := Lib.hid hY
  have HJ := Lib.hid hJ
  have hn2 : (n : Int) ≤ 1000000 := by omega
  clear hL hY hJ hB0
  refine callsIn_of_wp Tryd.func32 rfl trivial ?_ rfl
  simp only [Tryd.ntmps32, List.size_toArray, List.length_cons, List.length_nil, Nat.reduceAdd, Nat.reduceSub, Array.replicate_succ, Array.replicate_zero, List.push_toArray, List.append_toArray, List.nil_append, List.cons_append]
  gi_wp2
  gi_loopw [10] (fun q wr => ∃ i : Nat, i ≤ n ∧ q = .int .i64 i ∧ J (flatP (l.take i)) wr ∧ HoldS X W wr) (fun q _ => n - (intOf q).toNat)
  case atStart => exact ⟨0, Nat.zero_le _, rfl, by simpa [flatP] using h0, HoldS.refl _ _⟩
  case round =>
    clear c1
    obtain ⟨i, hi, rfl, hJi, hH⟩ := hrel
    by_cases hlt : i < n
    · obtain ⟨⟨x, px⟩, hx⟩ : ∃ x, l[i]? = some x := ⟨_, List.getElem?_eq_getElem (by rw [HL.out.2]; exact hlt)⟩
      have g1 : (i : Int) < n := by omega
      have hLr := HL.out.1.hold hH.1 hX
      obtain ⟨b, o, A1, n1, c1, rfl, hbB, hrow, hpv, hpc⟩ := hLr.entry hx
      simp only at hrow hpv hpc
      have hone : x.One := by unfold LN.One; rw [hpv]; rfl
      have ix := ln_linfo x
      have jx := ln_info x
      have ox := one_ln hone
      obtain ⟨Y, hYY, y5, bY⟩ := newRow wr #[.int .i64 0, .bool false, .bool false, .bool false, .slice none 0 0] x.cells.toArray 45
      have k4 : Y.cell? ⟨wr.heap.size, 4, none⟩ = some x.pv := blk_cell y5 rfl
      rw [hpv] at k4
      have hn1 := hpc.len
      have hm1 := hpc.cap
      have hm2 := hpc.most
      simp only [maxLen] at hm2
      have hm3 : (n1 : Int) ≤ 9223372036854775807 := by omega
      have HN1 := Lib.hid hn1
      clear hn1 hm1 hm2
      have HZ := Lib.hid (And.intro hx (And.intro hpc hpv))
      have HJi := Lib.hid hJi
      clear hx hpc hLr hJi
      gi_wp2_with (first
        | (refine wpListIn_val rfl (fun c e => by cases e) rfl (exec_load_row (x := .tmp 12) rfl rfl hrow Tryd.underlying45 rfl ix) ?_)
        | (refine wpListIn_val rfl (fun c e => by cases e) rfl (exec_new lnZ rfl _) ?_)
        | (refine wpListIn_skip rfl (fun c e => by cases e) rfl (exec_store_row (x := .tmp 4) (y := .tmp 13) rfl rfl rfl (heap_alloc_new _ _) jx rfl ox) ?_)
        | fail)
      obtain ⟨hx, hpc, -⟩ := HZ.out
      have hJY : J (flatP (l.take i)) Y := HJ.out _ _ _ none HJi.out (grown_of_below bY) (fun r e => by cases e)
      have hHY : HoldS X W Y := hH.trans (HoldS.of_below bY (fun k hk => by have := hXW k hk; have := hH.2; omega))
      have HPC := Lib.hid (hpc.below (bY.mono (by have := hH.2; omega)))
      have HX := Lib.hid hx
      clear hx hpc HZ
      gi_loopw [17] (fun q wr => ∃ j : Nat, j ≤ n1 ∧ q = .int .i64 j ∧ J (flatP (l.take i) ++ px.take j) wr ∧ HoldS X W wr) (fun q _ => n1 - (intOf q).toNat)
      case atStart => exact ⟨0, Nat.zero_le _, rfl, by simpa using hJY, hHY⟩
      case round =>
        obtain ⟨j, hj, rfl, hJj, hHj⟩ := hrel
        by_cases hlj : j < n1
        · obtain ⟨p, hp⟩ : ∃ p, px[j]? = some p := ⟨_, List.getElem?_eq_getElem (by rw [HN1.out]; exact hlj)⟩
          have g1 : (j : Int) < n1 := by omega
          have hxm := HX.out
          have hpcr : PcAt wr B A1 n1 c1 px := by
            have := (HL.out.1.hold hHj.1 hX).entry hxm
            obtain ⟨_, _, A2, n2, c2, -, -, -, e1, e2⟩ := this
            rw [hpv] at e1
            cases e1
            exact e2
          obtain ⟨pb, po, rfl, hpB, hprow⟩ := hpcr.entry hp
          have ix := pc_info2 p
          have jx : (Tryd.prog.info? 47).map (·.size) = some p.cells.toArray.size := pc_size
          have ox := one_pc p
          obtain ⟨Z, hZZ, z5, bZ⟩ := newRow wr #[.int .i64 0, .string ⟨#[]⟩] p.cells.toArray 47
          have hJZ : J (flatP (l.take i) ++ px.take j) Z := HJ.out _ _ _ none hJj (grown_of_below (bZ.mono (Nat.le_refl _))) (fun r e => by cases e)
          have hHZ : HoldS X W Z := hHj.trans (HoldS.of_below bZ (fun k hk => by have := hXW k hk; have := hHj.2; omega))
          have hlen : (flatP (l.take i) ++ px.take j).length < (flatP l).length := by
            obtain ⟨t, ht⟩ := flatP_pre hxm
            rw [ht]
            simp only [List.length_append, List.length_take]
            have := HN1.out
            omega
          obtain ⟨fn, tmps, assign, body, hy, hR⟩ := HY.out _ p Z hJZ hlen
          have hnx : (flatP (l.take i) ++ px.take j) ++ [p] = flatP (l.take i) ++ px.take (j + 1) := by
            rw [List.take_add_one, hp, List.append_assoc]; rfl
          simp only [pcv, PC.cells] at hy
          have cz0 : Z.cell? ⟨wr.heap.size, 0, none⟩ = some (.int .i64 p.x) := blk_cell z5 rfl
          have cz1 : Z.cell? ⟨wr.heap.size, 1, none⟩ = some (.string p.s) := blk_cell z5 rfl
          have HNX := Lib.hid hnx
          have HHZ := Lib.hid (And.intro hHZ hp)
          clear hnx hHZ hp hJZ hJj hHj hpcr hlen hxm
          gi_wp2_with (first
            | (refine wpListIn_val rfl (fun c e => by cases e) rfl (exec_load_row (x := .tmp 19) rfl rfl hprow Tryd.underlying47 rfl ix) ?_)
            | (refine wpListIn_val rfl (fun c e => by cases e) rfl (exec_new pcZ' rfl _) ?_)
            | (refine wpListIn_skip rfl (fun c e => by cases e) rfl (exec_store_row (x := .tmp 6) (y := .tmp 20) rfl rfl rfl (heap_alloc_new _ _) jx rfl ox) ?_)
            | fail)
          refine hR.mono ?_
          rintro e W3 (⟨rfl, hJ3, hk3⟩ | ⟨rfl, hJx3⟩)
          · rw [HNX.out] at hJ3
            gi_wp2
            go_roundw
            case rel => exact ⟨j + 1, by omega, by go_num, hJ3, HHZ.out.1.trans hk3⟩
            case measure => simp [intOf]; omega
          · gi_wp2
            refine bodyPost_ret (results_none rfl _ _ _) rfl ?_
            refine ⟨⟨_, rfl⟩, .inr ⟨_, ?_, hJx3⟩⟩
            obtain ⟨t, ht⟩ := flatP_pre HX.out
            refine ⟨px.drop (j + 1) ++ t, ?_⟩
            rw [HNX.out, ht]
            simp only [List.append_assoc]
            rw [← List.append_assoc (px.take (j + 1)), List.take_append_drop]
        · obtain rfl : j = n1 := by omega
          have g1 : ¬ (j : Int) < j := by omega
          have hJe : J (flatP (l.take (i + 1))) wr := by
            rw [flatP_next HX.out]
            have e : px.take j = px := List.take_of_length_le (by have := HN1.out; omega)
            rw [e] at hJj
            exact hJj
          gi_wp2
          go_roundw
          case rel => exact ⟨i + 1, by omega, by go_num, hJe, hHj⟩
          case measure => simp [intOf]; omega
    · obtain rfl : i = n := by omega
      have g1 : ¬ (i : Int) < i := by omega
      have hJe : J (flatP l) wr := by
        have e : l.take i = l := List.take_of_length_le (by have := HL.out.2; omega)
        rw [e] at hJi
        exact hJi
      gi_wp2
      go_end0
      exact ⟨⟨_, rfl⟩, .inl hJe⟩
theorem pieces_stops (B0 B n c : Nat) (A : Option Addr) (num : Value) (l : List (LN × List PC)) (hn : n ≤ 1000000) (X : Nat → Prop) (hX : ∀ k, k < B → X k) (hX0 : X B0) (w : World)
    (hXW : ∀ k, X k → k < w.heap.size) (hL : RnAt w B A n c l) (hB0 : w.heap[B0]? = some (.cells #[num, .slice A n c] 24)) :
    SeqStopsK Fence.wide 10 Tryd.prog 32 #[.pointer (some ⟨B0, 0, none⟩)] pcv (HoldS X) (fun ys => ys = flatP l) (fun pre => ∃ t, flatP l = pre ++ t) (flatP l).length w := fun l0 J Jx W hW hJ _ hY h0 =>
  have hh := Hold.of_below hW hXW
  pieces1_in l0 B0 B n c A num l hn X hX hX0 J Jx W (fun k hk => Nat.lt_of_lt_of_le (hXW k hk) hW.size) hJ hY (hL.hold hh hX) ((hh B0 hX0).trans hB0) h0
end Go.Proofs.YtiffcdeagckgmaaDoor
