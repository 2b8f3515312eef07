/- sheet.Encode. -/
import Derived.Test.YtiffcdeagckgmaaDoorShMay
import Derived.Test.YtiffcdeagckgmaaDoorAp
import Derived.Lib.AppendStr
namespace Go.Proofs.YtiffcdeagckgmaaDoor
set_option linter.unusedSimpArgs false
set_option linter.unusedVariables false
open Go.RowKit Go.ChangeShapes Go.WideShapes Go.Sort Go.Deep
attribute [-go_sem] Builtin.append_

def pieceB (p : PC) : List UInt8 := [u8 (p.x / 256), u8 p.x, u8 p.s.size] ++ p.s.data.toList
def lineB (r : LN × List PC) : List UInt8 := [u8 (mkB r.1), u8 r.2.length] ++ r.2.flatMap pieceB
/-- a sheet's bytes -/
def encB (num : Int) (l : List (LN × List PC)) : List UInt8 := [u8 num, u8 l.length] ++ l.flatMap lineB
def encLn (l : List (LN × List PC)) : Nat := (l.flatMap lineB).length
theorem lineB_len {r : LN × List PC} (h : ∀ p ∈ r.2, pcOk p) : (r.2.flatMap pieceB).length ≤ r.2.length * 258 := by
  generalize r.2 = l at *
  induction l with
  | nil => simp
  | cons p l ih =>
    have h1 := ih (fun q hq => h q (List.mem_cons_of_mem _ hq))
    have h2 := (h p (List.mem_cons_self ..)).2.2.2.1
    have h3 : p.s.data.toList.length = p.s.size := rfl
    simp only [List.flatMap_cons, List.length_append, List.length_cons, pieceB, List.length_nil, h3]
    omega
theorem strCells_bvs (s : ByteArray) : Lib.strCells s = bvs s.data.toList := rfl
theorem take_flat {α : Type} {f : α → List UInt8} {l : List α} {i : Nat} {x : α} (h : l[i]? = some x) : (l.take (i + 1)).flatMap f = (l.take i).flatMap f ++ f x := by
  rw [List.take_add_one, h]
  simp
theorem elemC : Elem Tryd.prog 5 1 1 := elem_of (z := .int .u8 0) (by kernel_rfl) rfl (by decide)
theorem own_lit {W : World} {base g n : Nat} {cs : List Value} {t : TypeId} (hb : base ≤ g) (h : W.heap[g]? = some (.cells cs.toArray t)) (hn : cs.length = n) (hm : n ≤ maxLen) : W.ownsRow base t 1 (.slice (some ⟨g, 0, none⟩) n n) n cs :=
  ⟨by rw [hn, Nat.mul_one], .inr ⟨g, n, cs.toArray, rfl, hb, h, Nat.le_refl _, hm, by simp [hn], by rw [Nat.mul_one, ← hn]; exact List.take_length⟩⟩
def EncP (w : World) (l : List UInt8) (er : Int) (e : Ending) (w' : World) : Prop :=
  ∃ A n c, e = .returned (.tuple #[.slice A n c, .int .i64 er]) ∧ n = l.length ∧ n ≤ c ∧ c ≤ maxLen ∧ (A = none → c = 0) ∧ Sl w' w'.heap.size 1 A n (bvs l) ∧ Below w.heap.size w w'
theorem EncP.no {w w' : World} (h : Below w.heap.size w w') : EncP w [] 11 (.returned (.tuple #[.slice none 0 0, .int .i64 11])) w' :=
  ⟨none, 0, 0, rfl, rfl, Nat.le_refl _, by simp [maxLen], fun _ => rfl, Sl.nil, h⟩
theorem EncP.own {w w' : World} {l : List UInt8} {A : Option Addr} {n c base : Nat} {t : TypeId} (hn : n = l.length) (ho : w'.ownsRow base t 1 (.slice A n c) n (bvs l)) (h : Below w.heap.size w w') : EncP w l 0 (.returned (.tuple #[.slice A n c, .int .i64 0])) w' := by
  obtain ⟨A', c', e, h1, h2⟩ := own_form ho
  simp only [Value.slice.injEq] at e
  obtain ⟨rfl, -, rfl⟩ := e
  refine ⟨A, n, c, rfl, hn, h1, h2, fun e => ?_, Sl.of_own ho, h⟩
  subst e
  rcases ho.2 with ⟨e, _⟩ | ⟨g, cap, cur, e, _⟩
  · simp only [Value.slice.injEq] at e; exact e.2.2
  · simp at e

set_option maxRecDepth 100000 in
set_option maxHeartbeats 4000000 in
theorem enc_no {A : Option Addr} {n c : Nat} {num : Int} {l : List (LN × List PC)} (hnum : -9223372036854775808 ≤ num ∧ num ≤ 9223372036854775807) (w : World) (hl : RnAt w w.heap.size A n c l) (hc : c ≤ maxLen) (hT : Tabs w) (hno : ¬ MayP num l) :
    Calls Tryd.prog 10 #[.agg #[.int .i64 num, .slice A n c]] w (EncP w [] 11) := by
  have hm := fun (W : World) (hb : Below w.heap.size w W) => may_any hnum W (hl.nxt hb) hc (hT.below hb)
  rw [mayP_no hno] at hm
  have HM := Lib.hid hm
  clear hm hno hT
  go_enter Tryd.func10, Tryd.ntmps10
  go_wp2_with fail
  refine Calls.mono (HM.out _ ((Below.refl _ _).alloc (Nat.le_refl _) _)) ?_
  rintro e w1 ⟨rfl, hb1⟩
  go_wp2
  go_ret2
  exact EncP.no (((Below.refl _ w).alloc (Nat.le_refl _) _).trans (hb1.mono (by simp)))
set_option maxRecDepth 100000 in
set_option maxHeartbeats 16000000 in
theorem enc_may {A : Option Addr} {n c : Nat} {num : Int} {l : List (LN × List PC)} (hnum : -9223372036854775808 ≤ num ∧ num ≤ 9223372036854775807) (w : World) (hl : RnAt w w.heap.size A n c l) (hc : c ≤ maxLen) (hT : Tabs w) (hyes : MayP num l) :
    Calls Tryd.prog 10 #[.agg #[.int .i64 num, .slice A n c]] w (if (encB num l).length ≤ 1000 then EncP w (encB num l) 0 else EncP w [] 11) := by
  have hm := fun (W : World) (hb : Below w.heap.size w W) => may_any hnum W (hl.nxt hb) hc (hT.below hb)
  rw [mayP_yes hyes] at hm
  have HM := Lib.hid hm
  clear hm hT
  obtain ⟨⟨y1, y2, y3⟩, y4, y5⟩ := hyes
  have hln := hl.len
  have HY := Lib.hid (And.intro y4 (And.intro y5 (And.intro hl hln)))
  have hn20 : n ≤ 20 := by omega
  clear y4 y5 hl hln y3
  obtain ⟨R, hR⟩ : ∃ R, (if (encB num l).length ≤ 1000 then EncP w (encB num l) 0 else EncP w [] 11) = R := ⟨_, rfl⟩
  rw [hR]
  have HR := Lib.hid hR
  clear hR
  go_enter Tryd.func10, Tryd.ntmps10
  go_wp2_with fail
  refine Calls.mono (HM.out _ ((Below.refl _ _).alloc (Nat.le_refl _) _)) ?_
  rintro e V ⟨rfl, hb1⟩
  have a0 : V.heap[w.heap.size]? = some (.cells #[.int .i64 num, .slice A n c] 24) := bBlk hb1 (by simp) (heap_alloc_new _ _)
  have hBV : Below w.heap.size w V := ((Below.refl _ w).alloc (Nat.le_refl _) _).trans (hb1.mono (by simp))
  have hzV : w.heap.size < V.heap.size := (Array.getElem?_eq_some_iff.1 a0).1
  clear hb1
  have v0 : V.cell? ⟨w.heap.size, 0, none⟩ = some (.int .i64 num) := blk_cell a0 rfl
  have v1 : V.cell? ⟨w.heap.size, 1, none⟩ = some (.slice A n c) := blk_cell a0 rfl
  have g1 : IntKind.u8.wrap num = num := by rw [IntKind.wrap_u8]; omega
  have hoc : (bvs [u8 num, u8 (n : Int)]).toArray = #[Value.int .u8 num, .int .u8 (n : Int)] := by
    simp only [bvs, List.map_cons, List.map_nil, bv_u8]
    rw [Int.emod_eq_of_lt (by omega) (by omega), Int.emod_eq_of_lt (by omega) (by omega)]
  go_upto_region 4 with (fail)
  obtain ⟨W1, hW1⟩ : ∃ q, V.alloc (.cells (bvs [u8 num, u8 (n : Int)]).toArray 5) = q := ⟨_, rfl⟩
  have b1 : W1.heap[V.heap.size]? = some (.cells (bvs [u8 num, u8 (n : Int)]).toArray 5) := by rw [← hW1]; exact heap_alloc_new _ _
  have hbW1 : Below V.heap.size V W1 := by rw [← hW1]; exact (Below.refl _ _).alloc (Nat.le_refl _) _
  rw [hoc] at hW1
  try rw [hW1]
  have own0 := own_lit (W := W1) (base := V.heap.size) (n := 2) (cs := bvs [u8 num, u8 (n : Int)]) (t := 5) (Nat.le_refl _) b1 (by rw [bvs_len]; rfl) (by simp [maxLen])
  have v1 : W1.cell? ⟨w.heap.size, 1, none⟩ = some (.slice A n c) := (hbW1.cell (p := ⟨w.heap.size, 1, none⟩) hzV).trans v1
  clear hW1 b1 hoc g1 v0
  go_wp2_with fail
  go_loopw [4, 23] (fun s4 s23 wr => ∃ (i m : Nat) (A4 : Option Addr) (c4 : Nat), i ≤ n ∧ m ≤ 2 + i * 51602 ∧ s23 = .int .i64 i ∧ s4 = .slice A4 m c4 ∧ Hid (m = ([u8 num, u8 (n : Int)] ++ (l.take i).flatMap lineB).length ∧ wr.ownsRow V.heap.size 5 1 (.slice A4 m c4) m (bvs ([u8 num, u8 (n : Int)] ++ (l.take i).flatMap lineB))) ∧ Below V.heap.size V wr) (fun _ q _ => n - (intOf q).toNat)
  case atStart => exact ⟨0, 2, _, _, by omega, by omega, rfl, rfl, Lib.hid ⟨by simp, by simpa using own0⟩, hbW1⟩
  case round =>
    clear own0 hbW1 v1
    obtain ⟨i, m, A4, c4, hi, hm, rfl, rfl, HI, hbr⟩ := hrel
    by_cases hlt : i < n
    · obtain ⟨⟨x, px⟩, hx⟩ : ∃ x, l[i]? = some x := ⟨_, List.getElem?_eq_getElem (by rw [HY.out.2.2.2]; exact hlt)⟩
      have g4 : (i : Int) < n := by omega
      have hzr := hbr.size
      have hLr := HY.out.2.2.1.below (hBV.trans (hbr.mono (by omega)))
      have hok := HY.out.1 _ (List.mem_of_getElem? hx)
      obtain ⟨o1, o2, o3⟩ := hok
      obtain ⟨b, o, A1, n1, c1, rfl, hbB, hrow, hpv, hpc⟩ := hLr.entry hx
      simp only at hrow hpv hpc o1 o2 o3
      have hone : x.One := by unfold LN.One; rw [hpv]; rfl
      have ix := ln_linfo x
      have jx := ln_info x
      have ox := one_ln hone
      obtain ⟨Y, hYY, y5, bY⟩ := newRow wr #[.int .i64 0, .bool false, .bool false, .bool false, .slice none 0 0] x.cells.toArray 45
      have hownY := own_below HI.out.2 bY
      have hbY := hbr.trans (bY.mono hzr)
      have hpcY := hpc.below (bY.mono (by omega))
      have hn1 := hpc.len
      have hmk := marks_any ⟨o1, o2⟩ hone
      have hmb := mkB_bd ⟨o1, o2⟩
      have HP := Lib.hid (And.intro hx (And.intro hpcY (And.intro hpv (And.intro hn1 (And.intro hmk (And.intro hownY (And.intro hbY y5)))))))
      clear hx hpc hpcY hLr hn1 hmk hownY hbY y5
      go_upto_region 7 with (first
        | (refine wpList_load_mid rfl 45 (.tmp 25) rfl b (o + i * 5) rfl x.cells _ hrow Tryd.underlying45 rfl ix ?_)
        | (refine wpList_new rfl lnZ rfl ?_)
        | (refine wpList_store_row rfl 45 (.tmp 6) (.tmp 26) rfl _ x.cells.toArray rfl rfl _ _ (heap_alloc_new _ _) jx rfl ox ?_)
        | fail)
      (try simp only [Act.put, List.setIfInBounds_toArray, List.set_cons_zero, List.set_cons_succ])
      try rw [hYY]
      obtain ⟨e, he⟩ : ∃ q, wr.heap.size = q := ⟨_, rfl⟩
      rw [he]
      obtain ⟨hx, hpcY, -, hn1, hmk, hownY, hbY, y5⟩ := HP.out
      rw [he] at y5
      have heY : e < Y.heap.size := (Array.getElem?_eq_some_iff.1 y5).1
      have k0 : Y.cell? ⟨e, 0, none⟩ = some (.int .i64 x.kind) := blk_cell y5 rfl
      have k1 : Y.cell? ⟨e, 1, none⟩ = some (.bool x.first) := blk_cell y5 rfl
      have k2 : Y.cell? ⟨e, 2, none⟩ = some (.bool x.last) := blk_cell y5 rfl
      have k3 : Y.cell? ⟨e, 3, none⟩ = some (.bool x.over) := blk_cell y5 rfl
      have k4 : Y.cell? ⟨e, 4, none⟩ = some x.pv := blk_cell y5 rfl
      rw [hpv] at k4
      have hmk2 : ∀ W, Calls Tryd.prog 20 #[.agg #[.int .i64 x.kind, .bool x.first, .bool x.last, .bool x.over, .slice A1 n1 c1]] W (Ret W (.int .u8 (mkB x))) := fun W => by
        have := hmk W
        simp only [LN.cells, hpv] at this
        exact this
      have HMK := Lib.hid hmk2
      have hn200 : n1 ≤ 200 := by omega
      have hw1 : IntKind.u8.wrap (n1 : Int) = n1 := by rw [IntKind.wrap_u8]; omega
      let S : World → Prop := fun w' => w'.cell? ⟨e, 0, none⟩ = some (.int .i64 x.kind) ∧ w'.cell? ⟨e, 1, none⟩ = some (.bool x.first) ∧ w'.cell? ⟨e, 2, none⟩ = some (.bool x.last) ∧ w'.cell? ⟨e, 3, none⟩ = some (.bool x.over) ∧ w'.cell? ⟨e, 4, none⟩ = some (.slice A1 n1 c1)
      have hSS : ∀ {W W' : World}, e < W.heap.size → Below W.heap.size W W' → S W → S W' := fun he hb h =>
        ⟨(hb.cell (p := ⟨e, 0, none⟩) he).trans h.1, (hb.cell (p := ⟨e, 1, none⟩) he).trans h.2.1, (hb.cell (p := ⟨e, 2, none⟩) he).trans h.2.2.1, (hb.cell (p := ⟨e, 3, none⟩) he).trans h.2.2.2.1, (hb.cell (p := ⟨e, 4, none⟩) he).trans h.2.2.2.2⟩
      have hS0 : S Y.drew := ⟨k0, k1, k2, k3, k4⟩
      clear hx hpcY hn1 hmk hownY hbY y5 k0 k1 k2 k3 k4 hmk2 hYY
      refine wp_region_held (S := S) (by kernel_rfl) ?_
      change wpAnyH _ _ _ _ S _ _ _ Y.drew
      refine wpAnyH_take (i := 0) (oi := ?oi_1) (v := ?v_1) ?ho_1 ?h1_1 ?h2_1 ?h3_1 ?hq_1 (Or.inl ⟨?hw_1, ?hy_1⟩) ?hs_1 ?rest_1; (case h2_1 => kernel_rfl); (case h3_1 => kernel_rfl); (case ho_1 => (simp only [List.getElem?_toArray, List.getElem?_cons_zero, List.getElem?_cons_succ]; rfl)); (case h1_1 => kernel_rfl); (case hq_1 => exact fun _ _ _ h => h); (case hw_1 => rfl); (case hy_1 => (intro w' hSw; (try simp only [S] at hSw); go_simp; (try with_reducible rfl))); (case hs_1 => assumption); (try simp only [Act.put, List.setIfInBounds_toArray, List.set_cons_zero, List.set_cons_succ])
      refine wpAnyH_take (i := 1) (oi := ?oi_6) (v := ?v_6) ?ho_6 ?h1_6 ?h2_6 ?h3_6 ?hq_6 (Or.inl ⟨?hw_6, ?hy_6⟩) ?hs_6 ?rest_6; (case h2_6 => kernel_rfl); (case h3_6 => kernel_rfl); (case ho_6 => (simp only [List.getElem?_toArray, List.getElem?_cons_zero, List.getElem?_cons_succ]; rfl)); (case h1_6 => kernel_rfl); (case hq_6 => exact fun _ _ _ h => h); (case hw_6 => rfl); (case hy_6 => (intro w' hSw; have q0 := hSw.1; have q1 := hSw.2.1; have q2 := hSw.2.2.1; have q3 := hSw.2.2.2.1; have q4 := hSw.2.2.2.2; go_simp; (try with_reducible rfl))); (case hs_6 => assumption); (try simp only [Act.put, List.setIfInBounds_toArray, List.set_cons_zero, List.set_cons_succ])
      refine wpAnyH_take (i := 3) (oi := ?oi_2) (v := ?v_2) ?ho_2 ?h1_2 ?h2_2 ?h3_2 ?hq_2 (Or.inl ⟨?hw_2, ?hy_2⟩) ?hs_2 ?rest_2; (case h2_2 => kernel_rfl); (case h3_2 => kernel_rfl); (case ho_2 => (simp only [List.getElem?_toArray, List.getElem?_cons_zero, List.getElem?_cons_succ]; rfl)); (case h1_2 => kernel_rfl); (case hq_2 => exact fun _ _ _ h => h); (case hw_2 => rfl); (case hy_2 => (intro w' hSw; (try simp only [S] at hSw); go_simp; (try with_reducible rfl))); (case hs_2 => assumption); (try simp only [Act.put, List.setIfInBounds_toArray, List.set_cons_zero, List.set_cons_succ])
      refine wpAnyH_take (i := 4) (oi := ?oi_7) (v := ?v_7) ?ho_7 ?h1_7 ?h2_7 ?h3_7 ?hq_7 (Or.inl ⟨?hw_7, ?hy_7⟩) ?hs_7 ?rest_7; (case h2_7 => kernel_rfl); (case h3_7 => kernel_rfl); (case ho_7 => (simp only [List.getElem?_toArray, List.getElem?_cons_zero, List.getElem?_cons_succ]; rfl)); (case h1_7 => kernel_rfl); (case hq_7 => exact fun _ _ _ h => h); (case hw_7 => rfl); (case hy_7 => (intro w' hSw; have q4 := hSw.2.2.2.2; go_simp; (try with_reducible rfl))); (case hs_7 => assumption); (try simp only [Act.put, List.setIfInBounds_toArray, List.set_cons_zero, List.set_cons_succ])
      refine wpAnyH_take (i := 5) (oi := ?oi_3) (v := ?v_3) ?ho_3 ?h1_3 ?h2_3 ?h3_3 ?hq_3 (Or.inl ⟨?hw_3, ?hy_3⟩) ?hs_3 ?rest_3; (case h2_3 => kernel_rfl); (case h3_3 => kernel_rfl); (case ho_3 => (simp only [List.getElem?_toArray, List.getElem?_cons_zero, List.getElem?_cons_succ]; rfl)); (case h1_3 => kernel_rfl); (case hq_3 => exact fun _ _ _ h => h); (case hw_3 => rfl); (case hy_3 => (intro w' hSw; (try simp only [S] at hSw); go_simp; (try with_reducible rfl))); (case hs_3 => assumption); (try simp only [Act.put, List.setIfInBounds_toArray, List.set_cons_zero, List.set_cons_succ])
      refine wpAnyH_take (i := 6) (oi := ?oi_4) (v := ?v_4) ?ho_4 ?h1_4 ?h2_4 ?h3_4 ?hq_4 (Or.inl ⟨?hw_4, ?hy_4⟩) ?hs_4 ?rest_4; (case h2_4 => kernel_rfl); (case h3_4 => kernel_rfl); (case ho_4 => (simp only [List.getElem?_toArray, List.getElem?_cons_zero, List.getElem?_cons_succ]; rfl)); (case h1_4 => kernel_rfl); (case hq_4 => exact fun _ _ _ h => h); (case hw_4 => rfl); (case hy_4 => (intro w' hSw; (try simp only [S] at hSw); go_simp; (try with_reducible rfl))); (case hs_4 => assumption); (try simp only [Act.put, List.setIfInBounds_toArray, List.set_cons_zero, List.set_cons_succ])
      refine wpAnyH_ready (rs := [2]) (by kernel_rfl) (by simp) (AllReadyH.cons (o := ?oo2_8) ?hoo2_8 (fun K hK => ?steponly8) AllReadyH.nil); (case hoo2_8 => (simp only [List.getElem?_toArray, List.getElem?_cons_zero, List.getElem?_cons_succ]; rfl))
      go_simp
      refine Calls.mono (HMK.out _) ?_
      rintro e' w29 ⟨rfl, hb29⟩
      have hS1 : S w29 := hSS (W := Y.drew) heY hb29 hS0
      refine hK.out _ _ hS1 (fun _ => ?_)
      clear hK K
      (try simp only [Act.put, List.setIfInBounds_toArray, List.set_cons_zero, List.set_cons_succ])
      have hz29 : Y.heap.size ≤ w29.heap.size := hb29.size
      have hl29 : e < w29.heap.size := Nat.lt_of_lt_of_le heY hz29
      have hoc : (bvs [YtiffcdeagckgmaaDoor.u8 (mkB x), YtiffcdeagckgmaaDoor.u8 (n1 : Int)]).toArray = #[Value.int .u8 (mkB x), .int .u8 (n1 : Int)] := by
        simp only [bvs, List.map_cons, List.map_nil, bv_u8]
        rw [Int.emod_eq_of_lt (by omega) (by omega), Int.emod_eq_of_lt (by omega) (by omega)]
      have hS2 : S (w29.alloc (.cells #[Value.int .u8 (mkB x), .int .u8 (n1 : Int)] 5)) := hSS hl29 ((Below.refl _ _).alloc (Nat.le_refl _) _) hS1
      refine wpAnyH_ready (rs := [7]) (by kernel_rfl) (by simp) (AllReadyH.cons (o := ?oo7_9) ?hoo7_9 (fun K hK => ?steponly9) AllReadyH.nil); (case hoo7_9 => (simp only [List.getElem?_toArray, List.getElem?_cons_zero, List.getElem?_cons_succ]; rfl))
      go_simp
      refine hK.out _ _ hS2 (fun _ => ?_)
      clear hK K
      (try simp only [Act.put, List.setIfInBounds_toArray, List.set_cons_zero, List.set_cons_succ])
      have hx34 : Sl (w29.alloc (.cells #[Value.int .u8 (mkB x), .int .u8 (n1 : Int)] 5)) (w29.alloc (.cells #[Value.int .u8 (mkB x), .int .u8 (n1 : Int)] 5)).heap.size 1 (some ⟨w29.heap.size, 0, none⟩) 2 (bvs [YtiffcdeagckgmaaDoor.u8 (mkB x), YtiffcdeagckgmaaDoor.u8 (n1 : Int)]) := by
        rw [← hoc]
        exact Sl.new (sz := 1) (n := 2) (heap_alloc_new w29 _) rfl
      obtain ⟨hx, hpcY, -, hn1, -, hownY, hbY, y5⟩ := HP.out
      have hown29 := own_below (own_drewN hownY 1) hb29
      have hYV : V.heap.size ≤ Y.heap.size := hbY.size
      have hmm : m ≤ 2000000 := by omega
      have hbA : Below w29.heap.size w29 (w29.alloc (.cells #[Value.int .u8 (mkB x), .int .u8 (n1 : Int)] 5)) := (Below.refl _ _).alloc (Nat.le_refl _) _
      refine wpAnyH_ready (rs := [8]) (by kernel_rfl) (by simp) (AllReadyH.cons (o := ?oo8_10) ?hoo8_10 (fun K hK => ?steponly10) AllReadyH.nil); (case hoo8_10 => (simp only [List.getElem?_toArray, List.getElem?_cons_zero, List.getElem?_cons_succ]; rfl))
      refine step_app _ rfl (.tmp 27) (.tmp 34) 25 rfl (base := V.heap.size) Tryd.underlying25 elemC rfl (hown29.alloc _) rfl hx34 (oneCell_bvs _) (by simp only [maxLen]; omega) (by omega) (by have := hbA.size; omega) ?_
      intro A35 c35 w35 hown35 hg35 hb35 hat35
      have hg35' : World.grownBy (w29.alloc (.cells #[Value.int .u8 (mkB x), .int .u8 (n1 : Int)] 5)) w35 (Value.slice A4 m c4).ownBlock := hg35
      have hne35 : ∀ q, (Value.slice A4 m c4).ownBlock = some q → q ≠ e := fun q hq e2 => by
        have := (HI.out.2.lt q hq).2
        omega
      have hbe : w35.heap[e]? = (w29.alloc (.cells #[Value.int .u8 (mkB x), .int .u8 (n1 : Int)] 5)).heap[e]? := hg35'.block e (by have := hbA.size; omega) (fun e2 => hne35 e e2.symm rfl)
      have hS3 : S w35 := ⟨(World.cell?_of_block (a := ⟨e, 0, none⟩) hbe).trans hS2.1, (World.cell?_of_block (a := ⟨e, 1, none⟩) hbe).trans hS2.2.1, (World.cell?_of_block (a := ⟨e, 2, none⟩) hbe).trans hS2.2.2.1, (World.cell?_of_block (a := ⟨e, 3, none⟩) hbe).trans hS2.2.2.2.1, (World.cell?_of_block (a := ⟨e, 4, none⟩) hbe).trans hS2.2.2.2.2⟩
      refine hK.out _ _ hS3 (fun _ => ?_)
      clear hK K
      (try simp only [Act.put, List.setIfInBounds_toArray, List.set_cons_zero, List.set_cons_succ])
      have hB35 : Below V.heap.size V w35 := ((hbY.drew.trans (hb29.mono hYV)).trans (hbA.mono (by omega))).trans hb35
      have k4 := hS3.2.2.2.2
      have hz35 : w29.heap.size ≤ w35.heap.size := by have := hg35'.size; have := hbA.size; omega
      refine wpAnyH_take (i := 9) (oi := ?oi_5) (v := ?v_5) ?ho_5 ?h1_5 ?h2_5 ?h3_5 ?hq_5 (Or.inl ⟨?hw_5, ?hy_5⟩) ?hs_5 ?rest_5; (case h2_5 => kernel_rfl); (case h3_5 => kernel_rfl); (case ho_5 => (simp only [List.getElem?_toArray, List.getElem?_cons_zero, List.getElem?_cons_succ]; rfl)); (case h1_5 => kernel_rfl); (case hq_5 => exact fun _ _ _ h => h); (case hw_5 => rfl); (case hy_5 => (intro w' hSw; (try simp only [S] at hSw); go_simp; (try with_reducible rfl))); (case hs_5 => assumption); (try simp only [Act.put, List.setIfInBounds_toArray, List.set_cons_zero, List.set_cons_succ])
      refine wpAnyH_done (by kernel_rfl) ?_ _
      have HO := Lib.hid (And.intro hown35 hB35)
      have HX := Lib.hid hx
      have HPV := Lib.hid (And.intro hpcY hn1)
      clear hx hpcY hn1 hownY hbY y5 hown29 hx34 hown35 hg35 hg35' hb35 hat35 hbe hB35 hb29 hbA hoc hw1
      go_wp2_with fail
      go_loopw [4, 39] (fun s4 s39 wi => ∃ (j m2 : Nat) (A5 : Option Addr) (c5 : Nat), j ≤ n1 ∧ m2 ≤ m + 2 + j * 258 ∧ s39 = .int .i64 j ∧ s4 = .slice A5 m2 c5 ∧ Hid (m2 = m + 2 + ((px.take j).flatMap pieceB).length ∧ wi.ownsRow V.heap.size 5 1 (.slice A5 m2 c5) m2 (bvs ([YtiffcdeagckgmaaDoor.u8 num, YtiffcdeagckgmaaDoor.u8 (n : Int)] ++ (l.take i).flatMap lineB ++ ([YtiffcdeagckgmaaDoor.u8 (mkB x), YtiffcdeagckgmaaDoor.u8 (n1 : Int)] ++ (px.take j).flatMap pieceB)))) ∧ Below V.heap.size V wi) (fun _ q _ => n1 - (intOf q).toNat)
      case atStart => exact ⟨0, m + 2, _, _, by omega, by omega, rfl, rfl, Lib.hid ⟨by simp, by have := HO.out.1; rw [← bvs_append] at this; simpa using this⟩, HO.out.2⟩
      case round =>
        clear HO k4
        obtain ⟨j, m2, A5, c5, hj, hm2, rfl, rfl, HI2, hbj⟩ := hrel
        by_cases hlj : j < n1
        · obtain ⟨p, hp⟩ : ∃ p, px[j]? = some p := ⟨_, List.getElem?_eq_getElem (by rw [HPV.out.2]; exact hlj)⟩
          have g5 : (j : Int) < n1 := by omega
          have hpok : pcOk p := HY.out.2.1 p (by
            obtain ⟨t, ht⟩ := flatP_pre HX.out
            rw [ht]
            exact List.mem_append.2 (.inl (List.mem_append.2 (.inr (List.mem_of_getElem? hp)))))
          obtain ⟨p1, p2, p3, p4, -⟩ := hpok
          have hzj := hbj.size
          have hbwj : Below w.heap.size w wr := hBV.trans (hbj.mono (by omega))
          have hpcr : PcAt wr w.heap.size A1 n1 c1 px := by
            obtain ⟨_, _, A2, n2, c2, -, -, -, e1, e2⟩ := (HY.out.2.2.1.below hbwj).entry HX.out
            rw [hpv] at e1
            cases e1
            exact e2
          obtain ⟨pb, po, rfl, hpB, hprow⟩ := hpcr.entry hp
          have ix := pc_info2 p
          have jx : (Tryd.prog.info? 47).map (·.size) = some p.cells.toArray.size := pc_size
          have ox := one_pc p
          obtain ⟨Z, hZZ, z5, bZ⟩ := newRow wr #[.int .i64 0, .string ⟨#[]⟩] p.cells.toArray 47
          have hownZ := own_below HI2.out.2 bZ
          have hbZ := hbj.trans (bZ.mono hzj)
          have z0 : Z.cell? ⟨wr.heap.size, 0, none⟩ = some (.int .i64 p.x) := blk_cell z5 rfl
          have z1 : Z.cell? ⟨wr.heap.size, 1, none⟩ = some (.string p.s) := blk_cell z5 rfl
          have HZ := Lib.hid (And.intro hp (And.intro hownZ (And.intro hbZ z5)))
          clear hp hownZ hbZ hpcr
          go_upto_region 11 with (first
            | (refine wpList_load_mid rfl 47 (.tmp 41) rfl pb (po + j * 2) rfl p.cells _ hprow Tryd.underlying47 rfl ix ?_)
            | (refine wpList_new rfl pcZ' rfl ?_)
            | (refine wpList_store_row rfl 47 (.tmp 8) (.tmp 42) rfl _ p.cells.toArray rfl rfl _ _ (heap_alloc_new _ _) jx rfl ox ?_)
            | fail)
          (try simp only [Act.put, List.setIfInBounds_toArray, List.set_cons_zero, List.set_cons_succ])
          try rw [hZZ]
          clear hZZ hprow
          have hoc3 : (bvs [YtiffcdeagckgmaaDoor.u8 (p.x / 256), YtiffcdeagckgmaaDoor.u8 p.x, YtiffcdeagckgmaaDoor.u8 (p.s.size : Int)]).toArray = #[Value.int .u8 (p.x / 256), .int .u8 (p.x % 256), .int .u8 (p.s.size : Int)] := by
            simp only [bvs, List.map_cons, List.map_nil, bv_u8]
            rw [Int.emod_eq_of_lt (a := p.x / 256) (by omega) (by omega), Int.emod_eq_of_lt (a := (p.s.size : Int)) (by omega) (by omega)]
          obtain ⟨hp, hownZ, hbZ, z5⟩ := HZ.out
          have hm9 : m2 ≤ 2000000 := by omega
          have hx55 : Sl (Z.alloc (.cells #[Value.int .u8 (p.x / 256), .int .u8 (p.x % 256), .int .u8 (p.s.size : Int)] 5)) (Z.alloc (.cells #[Value.int .u8 (p.x / 256), .int .u8 (p.x % 256), .int .u8 (p.s.size : Int)] 5)).heap.size 1 (some ⟨Z.heap.size, 0, none⟩) 3 (bvs [YtiffcdeagckgmaaDoor.u8 (p.x / 256), YtiffcdeagckgmaaDoor.u8 p.x, YtiffcdeagckgmaaDoor.u8 (p.s.size : Int)]) := by
            rw [← hoc3]
            exact Sl.new (sz := 1) (n := 3) (heap_alloc_new Z _) rfl
          have hbzZ : V.heap.size ≤ Z.heap.size := hbZ.size
          have HZ2 := Lib.hid (And.intro hp (And.intro hbZ z5))
          clear hp hbZ z5
          go_wp2_with (first
            | (refine wpList_app _ rfl (.tmp 43) (.tmp 55) 25 rfl (base := V.heap.size) Tryd.underlying25 elemC rfl (hownZ.alloc _) rfl hx55 (oneCell_bvs _) (by simp only [maxLen]; omega) (by omega) (by simp; omega) ?_)
            | fail)
          intro A56 c56 w56 hown56 hg56 hb56 hat56
          have hbA : Below Z.heap.size Z (Z.alloc (.cells #[Value.int .u8 (p.x / 256), .int .u8 (p.x % 256), .int .u8 (p.s.size : Int)] 5)) := (Below.refl _ _).alloc (Nat.le_refl _) _
          have hlZ : wr.heap.size < Z.heap.size := (Array.getElem?_eq_some_iff.1 HZ2.out.2.2).1
          have hg56' : World.grownBy (Z.alloc (.cells #[Value.int .u8 (p.x / 256), .int .u8 (p.x % 256), .int .u8 (p.s.size : Int)] 5)) w56 (Value.slice A5 m2 c5).ownBlock := hg56
          have hbe : w56.heap[wr.heap.size]? = some (.cells p.cells.toArray 47) :=
            (hg56'.block wr.heap.size (by have := hbA.size; omega) (fun e2 => by have := (HI2.out.2.lt _ e2.symm).2; omega)).trans (bBlk hbA hlZ HZ2.out.2.2)
          have z9 : w56.cell? ⟨wr.heap.size, 1, none⟩ = some (.string p.s) := blk_cell hbe rfl
          have hbw56 : Below V.heap.size V w56 := (HZ2.out.2.1.trans (hbA.mono hbzZ)).trans hb56
          have hbase : V.heap.size ≤ w56.heap.size := hbw56.size
          have HW56 := Lib.hid hbw56
          clear hbw56 hg56 hg56' hat56 hb56
          (try simp only [Act.put, List.setIfInBounds_toArray, List.set_cons_zero, List.set_cons_succ])
          go_upto_region 12 with (fail)
          refine wp_region_lit ?_
          iterate 9 (first | go_guarded | go_step)
          refine Lib.wpList_append_own_string _ rfl (.tmp 57) (.tmp 59) 25 9 rfl V.heap.size 5 _ Tryd.underlying25 Tryd.underlying9 rfl rfl rfl rfl _ (m2 + 3) _ rfl hown56 p.s rfl (by simp only [maxLen]; omega) (by omega) hbase ?_
          intro v' w60 hown60 hg60 _
          obtain ⟨A60, c60, rfl, -⟩ := own_form hown60
          have hB60 : Below V.heap.size V w60 := by
            have hx := HW56.out
            exact ⟨hg60.os.trans hx.os, hg60.tape.trans hx.tape, hg60.output.trans hx.output, Nat.le_trans hx.size hg60.size, fun k hk => (hg60.block k (by omega) (fun e2 => by have := (hown56.lt _ e2.symm).1; omega)).trans (hx.block k hk)⟩
          have HE := Lib.hid (And.intro hown60 hB60)
          clear hown60 hB60 hg60
          (try simp only [Act.put, List.setIfInBounds_toArray, List.set_cons_zero, List.set_cons_succ])
          go_wp2_with fail
          go_roundw
          case rel => exact ⟨j + 1, m2 + 3 + p.s.size, A60, c60, by omega, by omega, by go_num, rfl, Lib.hid (by
            have e3 : (pieceB p).length = 3 + p.s.size := by
              have : p.s.data.toList.length = p.s.size := rfl
              simp only [pieceB, List.length_append, List.length_cons, List.length_nil, this]
            have e1 := HI2.out.1
            have e2 := HE.out.1
            rw [take_flat HZ2.out.1]
            refine ⟨by rw [List.length_append, e3]; omega, ?_⟩
            rw [strCells_bvs, ← bvs_append, ← bvs_append] at e2
            simpa [pieceB] using e2), HE.out.2⟩
          case measure => simp [intOf]; omega
        · have hjn : j = n1 := by omega
          clear hlj
          go_wp2_with fail
          go_roundw
          case rel => exact ⟨i + 1, m2, A5, c5, by omega, by omega, by go_num, rfl, Lib.hid (by
            have e1 := HI2.out.1
            have e2 := HI2.out.2
            have e3 := HI.out.1
            have e4 := HPV.out.2
            have e5 : px.take j = px := by rw [hjn]; exact List.take_of_length_le (by omega)
            rw [e5] at e1 e2
            rw [take_flat HX.out]
            simp only [lineB, ← e4] at *
            refine ⟨by simp only [List.length_append, List.length_cons, List.length_nil] at e1 e3 ⊢; omega, ?_⟩
            simpa using e2), hbj⟩
          case measure => simp [intOf]; omega
    · have hin : i = n := by omega
      clear hlt
      have hE : encB num l = [YtiffcdeagckgmaaDoor.u8 num, YtiffcdeagckgmaaDoor.u8 (n : Int)] ++ (l.take i).flatMap lineB := by
        rw [List.take_of_length_le (by have := HY.out.2.2.2; omega), encB, HY.out.2.2.2]
      have hBW : Below w.heap.size w wr := hBV.trans (hbr.mono (by omega))
      have HF := Lib.hid (And.intro hE hBW)
      clear hE hBW hbr
      by_cases hlim : m ≤ 1000
      · have g6 : (m : Int) ≤ 1000 := by omega
        go_wp2_with fail
        change R (.returned (.tuple #[.slice A4 m c4, .int .i64 0])) wr
        rw [← HR.out, if_pos (by rw [HF.out.1, ← HI.out.1]; exact hlim), HF.out.1]
        exact EncP.own HI.out.1 HI.out.2 HF.out.2
      · have g6 : (1000 : Int) < m := by omega
        go_wp2_with fail
        change R (.returned (.tuple #[.slice none 0 0, .int .i64 11])) wr
        rw [← HR.out, if_neg (by rw [HF.out.1, ← HI.out.1]; exact hlim)]
        exact EncP.no HF.out.2
/-- a sheet is good: it may be, and it goes into a page's bytes -/
def GoodP (num : Int) (l : List (LN × List PC)) : Prop := MayP num l ∧ (encB num l).length ≤ 1000
theorem enc_yes {A : Option Addr} {n c : Nat} {num : Int} {l : List (LN × List PC)} (hnum : -9223372036854775808 ≤ num ∧ num ≤ 9223372036854775807) (w : World) (hl : RnAt w w.heap.size A n c l) (hc : c ≤ maxLen) (hT : Tabs w) (h : GoodP num l) :
    Calls Tryd.prog 10 #[.agg #[.int .i64 num, .slice A n c]] w (EncP w (encB num l) 0) := by
  have := enc_may hnum w hl hc hT h.1
  rwa [if_pos h.2] at this
theorem enc_not {A : Option Addr} {n c : Nat} {num : Int} {l : List (LN × List PC)} (hnum : -9223372036854775808 ≤ num ∧ num ≤ 9223372036854775807) (w : World) (hl : RnAt w w.heap.size A n c l) (hc : c ≤ maxLen) (hT : Tabs w) (h : ¬ GoodP num l) :
    Calls Tryd.prog 10 #[.agg #[.int .i64 num, .slice A n c]] w (EncP w [] 11) := by
  by_cases h1 : MayP num l
  · have := enc_may hnum w hl hc hT h1
    rwa [if_neg (fun h2 => h ⟨h1, h2⟩)] at this
  · exact enc_no hnum w hl hc hT h1
end Go.Proofs.YtiffcdeagckgmaaDoor
