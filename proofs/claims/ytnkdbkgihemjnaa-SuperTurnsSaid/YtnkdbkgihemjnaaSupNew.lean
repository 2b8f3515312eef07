/- The walk over super.right (an iterator) and super.Newest. -/
import Derived.Test.YtnkdbkgihemjnaaSupPut
import Derived.Test.YtnkdbkgihemjnaaSupEq
import Derived.Test.YtnkdbkgihemjnaaDskRead
namespace Go.Proofs.Ytnkdbkgihemjnaa
set_option linter.unusedSimpArgs false
set_option linter.unusedVariables false
open Go.RowKit Go.ChangeShapes Go.WideShapes Go.Sort Go.Shelf
attribute [local go_sem] Oper.semAt_some

theorem right_any (p : Nat) (w : World) :
    Calls Try.prog 61 #[dp p] w fun e w' =>
      e = .returned (.func (.func 78) #[] #[.pointer (some ⟨w.heap.size, 0, none⟩)]) ∧ w.alloc (.cells #[dp p] 25) = w' := by
  unfold dp
  go_enter Try.func61, Try.ntmps61
  go_wp2
  go_ret
  exact ⟨rfl, rfl⟩

/-! ### the superblocks of a disk -/
abbrev SPO := {s : SP // s.Ok}
def spcs (x : SPO) : Array Value := #[spv x.1]
def DS.seq (d : DS) : Nat → List SP
  | 0 => []
  | k + 1 => d.seq k ++ (if d.isAt k then [decP (d.read (k : Int))] else [])
theorem seq_len (d : DS) (k : Nat) : (d.seq k).length ≤ k := by
  induction k with
  | zero => exact Nat.le_refl _
  | succ k ih => unfold DS.seq; rw [List.length_append]; split <;> simp <;> omega
def best1 (b : SP) (x : SP) : SP := if b.gen < x.gen then x else b
def bestL (l : List SP) : SP := l.foldl best1 sp0
theorem bestL_snoc (l : List SP) (x : SP) : bestL (l ++ [x]) = best1 (bestL l) x := by simp [bestL]
theorem bestL_two (p q : Bool) (A B : SP) : bestL (([] ++ if p then [A] else []) ++ if q then [B] else []) = (if q ∧ (if p ∧ sp0.gen < A.gen then A else sp0).gen < B.gen then B else (if p ∧ sp0.gen < A.gen then A else sp0)) := by
  unfold bestL
  cases p <;> cases q <;> simp [best1]
theorem bestL_seq (d : DS) : bestL (d.seq 2) = d.best := by
  unfold DS.best DS.at1
  exact bestL_two _ _ _ _
theorem bestL_ok {l : List SP} (h : ∀ x ∈ l, x.Ok) : (bestL l).Ok := by
  unfold bestL
  suffices ∀ (l : List SP) (b : SP), b.Ok → (∀ x ∈ l, x.Ok) → (l.foldl best1 b).Ok from this l sp0 sp0_ok h
  intro l
  induction l with
  | nil => intro b hb _; exact hb
  | cons x l ih =>
    intro b hb h
    refine ih _ ?_ (fun y hy => h y (by simp [hy]))
    unfold best1; split
    · exact h x (by simp)
    · exact hb

theorem isAt_iff (d : DS) (k : Nat) : d.isAt k = (isS (d.read (k : Int)) && decide ((decP (d.read (k : Int))).gen % 2 = k) && decide ((decP (d.read (k : Int))).blocks = d.bl.length)) := rfl
theorem readE_up {d : DS} (h : d.Ok) (hdn : d.down = false) {k : Nat} (hk : k < 2) : d.readE (k : Int) = 0 := by
  have := h.n16
  unfold DS.readE
  rw [DS.inB_iff.2 ⟨by omega, by omega⟩, hdn]
  rfl

theorem stepIn_val {F : Fence} {n : Nat} {P : Program} {ops : Array Oper} {o : Oper} {a : Act} {w w' : World} {K : Act → World → Prop} {Q : Exit → Act → World → Prop} {v : Value} {E : Prop} (hw : Region.wanted o (yielded ops a.tmps) = true) (hd : ∀ c, o.op ≠ .defer c) (ha : o.about P w a.eval = none)
    (hrun : (execOp a.eval o).run P w = .ok (.value v) w') (hk : K (a.put o.dst v) w') : if Region.wanted o (yielded ops a.tmps) = true then Oper.wpIn F n P o a w K Q else E := by
  rw [if_pos hw]
  refine ⟨fun c hc => (by rw [ha] at hc; cases hc), ?_⟩
  rw [Oper.semAt_eq _ _ _ hd, hrun]
  exact hk

set_option maxRecDepth 100000 in
set_option maxHeartbeats 8000000 in
theorem right1_in (l D1 : Nat) {base p B : Nat} {v : Value} {d : DS} (X : Nat → Prop) (h1 : X D1) (hX : ∀ k, Own p B v k → X k) (hlo : d.lo.length < 1000000) (hdn : d.down = false) (J Jx : List SPO → World → Prop) (W : World)
    (hXW : ∀ k, X k → k < W.heap.size)
    (hJ : AbidesFrom W.heap.size J)
    (hY : ∀ pre x W, J pre W → pre.length < 3 → YieldAt Fence.wide 9 Try.prog l (spcs x) W fun e W' =>
      (e = .returned (.bool true) ∧ J (pre ++ [x]) W' ∧ Hold X W W') ∨ (e = .returned (.bool false) ∧ Jx (pre ++ [x]) W'))
    (hD1 : W.heap[D1]? = some (.cells #[dp p] 25)) (hD : Dk W base p B v d) (h0 : J [] W) :
    CallsIn Fence.wide 10 Try.prog 78 #[.func (.yield l) #[] #[], .pointer (some ⟨D1, 0, none⟩)] W fun e W' => (∃ v, e = .returned v) ∧
      ((∃ ys, ys.map Subtype.val = d.seq 2 ∧ J ys W') ∨ (∃ pre, True ∧ Jx pre W')) := by
  have hok := hD.ok
  have HY := Lib.hid hY
  have HJ := Lib.hid hJ
  have HX := Lib.hid (And.intro hX hXW)
  have HDD := Lib.hid hD
  have hD1w := hXW _ h1
  clear hY hJ hX hXW hD
  refine callsIn_of_wp Try.func78 rfl trivial ?_ rfl
  simp only [Try.ntmps78, List.size_toArray, List.length_cons, List.length_nil, Nat.reduceAdd, Nat.reduceSub, Array.replicate_succ, Array.replicate_zero, List.push_toArray, List.append_toArray, List.nil_append, List.cons_append]
  gi_wp2
  gi_loopw [7] (fun n wr => ∃ (k : Nat) (pre : List SPO), n = .int .i64 k ∧ k ≤ 2 ∧ pre.map Subtype.val = d.seq k ∧ J pre wr ∧ Hold X W wr) (fun n _ => 2 - (intOf n).toNat)
  case atStart => exact ⟨0, [], rfl, by omega, rfl, h0, Hold.refl _ _⟩
  case round =>
    obtain ⟨k, pre, rfl, hk, hpre, hJk, hH⟩ := hrel
    have hplen : pre.length ≤ k := by have := seq_len d k; rw [← hpre, List.length_map] at this; exact this
    have HPRE := Lib.hid hpre
    clear hpre
    by_cases hlt : k < 2
    · have hDr := HDD.out.hold (fun j hj => hH.1 j (HX.out.1 j hj))
      have hd1 := hH.blk h1 hD1
      have hHs := hH.2
      have d0 := blk_cell hd1 (k := 0) rfl
      have hread := read_any hDr hlo (k : Int)
      have hE := readE_up hok hdn hlt
      have hbl := hok.read (k : Int)
      have HAT := Lib.hid (isAt_iff d k)
      rw [hE] at hread
      obtain ⟨b, hb⟩ : ∃ b, d.read (k : Int) = b := ⟨_, rfl⟩
      rw [hb] at hread hbl HAT
      have HB := Lib.hid hb
      unfold dp at hread d0
      unfold bkv at hread
      clear hb hE
      gi_wp2_with fail
      refine ⟨trivial, ?_⟩
      refine (callsIn_wide.2 hread).mono ?_
      rintro e w1 ⟨rfl, hb1⟩
      have hdec := fun W => decode_any hbl W
      unfold bkv spv at hdec
      obtain ⟨Y, hYY⟩ : ∃ Y, (w1.alloc (.cells (bvs zblk).toArray 40)).setRow w1.heap.size (bvs b).toArray = Y := ⟨_, rfl⟩
      have y4 : Y.heap[w1.heap.size]? = some (.cells (bvs b).toArray 40) := by rw [← hYY]; exact setRow_heap _ _ _ _ _ _ (heap_alloc_new _ _)
      have hbY : Below w1.heap.size w1 Y := by rw [← hYY]; exact bSetRow ((Below.refl _ _).alloc (Nat.le_refl _) _) (Nat.le_refl _) _
      have yr4 : Y.rangeAt w1.heap.size 0 (bvs b) := fun j u hj => by rw [Nat.zero_add]; exact blk_cell y4 (by simpa using hj)
      have hz1 := hb1.size
      have hbr : Below wr.heap.size wr Y := hb1.trans (hbY.mono hz1)
      clear hread
      gi_wp2_with (first
        | (refine wpListIn_val rfl (fun c e => by cases e) rfl (exec_new blkZ rfl _) ?_)
        | (refine wpListIn_skip rfl (fun c e => by cases e) rfl (exec_store_row (x := .tmp 4) (y := .tmp 14) rfl rfl rfl (heap_alloc_new _ _) (bk_info hbl) (blk_sizes zblk_len hbl) (all_oneCell_toArray (oneCell_bvs _))) ?_)
        | (refine wpListIn_val rfl (fun c e => by cases e) rfl (exec_load_row (x := .tmp 4) rfl rfl yr4 Try.underlying40 rfl (bk_len hbl)) ?_)
        | fail)
      refine ⟨trivial, ?_⟩
      refine (callsIn_wide.2 (hdec _)).mono ?_
      rintro e w2 ⟨rfl, hb2⟩
      have hsok := decS_ok hbl
      have hsi := sp_info hsok
      have hsl := sp_len hsok
      obtain ⟨s, hs⟩ : ∃ s, decS b = s := ⟨_, rfl⟩
      rw [hs] at hsok hsi hsl
      rw [hs]
      obtain ⟨V, hVV⟩ : ∃ V, (w2.alloc (.cells sp0.cells.toArray 38)).setRow w2.heap.size s.cells.toArray = V := ⟨_, rfl⟩
      have v6 : V.heap[w2.heap.size]? = some (.cells s.cells.toArray 38) := by rw [← hVV]; exact setRow_heap _ _ _ _ _ _ (heap_alloc_new _ _)
      have hbV : Below w2.heap.size w2 V := by rw [← hVV]; exact bSetRow ((Below.refl _ _).alloc (Nat.le_refl _) _) (Nat.le_refl _) _
      have hz2 := hb2.size
      have hz0 := hbr.size
      have hbrV : Below wr.heap.size wr V := hbr.trans ((hb2.trans (hbV.mono hz2)).mono hz0)
      obtain ⟨-, c0, c1, -, -, -⟩ := SpAt.of hsok v6
      have v1 := bBlk hbrV (by omega) hd1
      have e1 := blk_cell v1 (k := 0) rfl
      have hDV := hDr.below hbrV
      have hlen := fun n => len_any (hDV.below (bDrewN (Below.refl _ V) n))
      have hbwV : ∀ n, Below wr.heap.size wr (V.drewN n) := fun n => bDrewN hbrV n
      have hJV : ∀ n, J pre (V.drewN n) := fun n => HJ.out _ _ _ none hJk (grown_of_below (hbwV n)) (fun r e => by cases e)
      have hHV : ∀ n, Hold X W (V.drewN n) := fun n => hH.trans (Hold.of_below (hbwV n) (fun j hj => by have := HX.out.2 j hj; omega))
      have hJV' := Lib.hid hJV
      have hHV' := Lib.hid hHV
      clear hJV hHV
      have hJV := hJV'
      have hHV := hHV'
      clear hdec y4 yr4 hbr hb1 hb2 hbY hbV hDr hd1 d0 hYY
      gi_wp2_with (first
        | (refine wpListIn_val rfl (fun c e => by cases e) rfl (exec_new spZ rfl _) ?_)
        | (refine wpListIn_skip rfl (fun c e => by cases e) rfl (exec_store_row (x := .tmp 6) (y := .tmp 21) rfl rfl rfl (heap_alloc_new _ _) hsi (by rw [List.size_toArray, List.size_toArray, hsok.len, sp0_ok.len]) (all_oneCell_toArray (one_sp _))) ?_)
        | fail)
      cases his : isS b
      · have hE : decE b = 11 := by unfold decE; rw [his]; rfl
        rw [hE]
        refine wpIn_wide.2 ?_
        go_quiet (fail)
        gi_wp2
        rw [his] at HAT
        simp only [Bool.false_and] at HAT
        refine ⟨⟨k + 1, pre, by go_num, by omega, by unfold DS.seq; rw [HAT.out, HPRE.out]; simp, hJV.out nq, hHV.out nq⟩, ?_⟩
        simp [intOf]; omega
      · have hE : decE b = 0 := by unfold decE; rw [his]; rfl
        have hsd : s = decP b := by rw [← hs]; unfold decS; rw [his]; rfl
        rw [hE]
        by_cases hm : (s.gen : Int) % 2 = (k : Int)
        · by_cases hbk : s.blocks = (d.bl.length : Int)
          · have HAT2 : Hid (d.isAt k = true) := Lib.hid (by
              rw [HAT.out, ← hsd]
              simp only [Bool.true_and, Bool.and_eq_true, decide_eq_true_eq]
              exact ⟨⟨his, by omega⟩, hbk⟩)
            have HSD : Hid (s = decP (d.read (k : Int))) := Lib.hid (by rw [HB.out]; exact hsd)
            obtain ⟨fn, tmps, assign, body, hy, hR⟩ := HY.out pre ⟨s, hsok⟩ (V.drewN 1) (hJV.out 1) (by omega)
            simp only [spcs, spv] at hy
            have hR2 : RoundIn Fence.wide 9 Try.prog l fn tmps assign body (V.drewN 1) fun e W' => ∃ t, e = .returned (.bool t) ∧ Hid ((t = true → J (pre ++ [⟨s, hsok⟩]) W' ∧ Hold X (V.drewN 1) W') ∧ (t = false → Jx (pre ++ [⟨s, hsok⟩]) W')) := hR.mono (by
              rintro e W3 (⟨rfl, hJ3, hk3⟩ | ⟨rfl, hJx3⟩)
              · exact ⟨true, rfl, Lib.hid ⟨fun _ => ⟨hJ3, hk3⟩, (fun e => by cases e)⟩⟩
              · exact ⟨false, rfl, Lib.hid ⟨(fun e => by cases e), fun _ => hJx3⟩⟩)
            have g1 : ((s.gen : Int) % 2 == (k : Int)) = true := by simpa using hm
            have g2 : decide ((s.gen : Int) % 2 = (k : Int)) = true := by simpa using hm
            have g3 : (s.blocks == (d.bl.length : Int)) = true := by simpa using hbk
            have g4 : decide (s.blocks = (d.bl.length : Int)) = true := by simpa using hbk
            have g5 : (IntKind.i64.wrap ((s.gen : Int).tmod 2) == (k : Int)) = true := by
              rw [Int.tmod_eq_emod_of_nonneg (by omega), wrap_small _ (by omega) (by omega)]; exact g1
            have hlen1 := hlen 1
            have vr6 : (V.drewN 1).rangeAt w2.heap.size 0 s.cells := fun j u hj => by rw [Nat.zero_add]; exact blk_cell v6 (by simpa using hj)
            have hld : (loadVar 38 ⟨w2.heap.size, 0, none⟩).run Try.prog (V.drewN 1) = .ok (.agg s.cells.toArray) (V.drewN 1) := run_loadVar_row (P := Try.prog) (V.drewN 1) _ _ 38 _ _ _ v6 Try.underlying38 rfl hsi
            clear hm hbk hs hsd his hE HAT hlen hR v6
            refine wpIn_region_any (by kernel_rfl) ?_
            change wpAnyIn _ _ _ _ _ _ _ _ _ (World.drew _)
            refine wpAnyIn_take (i := 0) (oi := ?oi_1) (v := ?v_1) ?hro_1 ?ho_1 ?h1_1 ?h2_1 ?h3_1 ?hq_1 ⟨Or.inl ⟨?hw_1, ?hy_1⟩, ?hab_1⟩ ?rest_1; (case hro_1 => rfl); (case h2_1 => kernel_rfl); (case h3_1 => kernel_rfl); (case ho_1 => (simp only [List.getElem?_toArray, List.getElem?_cons_zero, List.getElem?_cons_succ]; rfl)); (case h1_1 => kernel_rfl); (case hq_1 => exact fun _ _ _ h => h); (case hw_1 => rfl); (case hy_1 => (intro w'; go_simp; (try with_reducible rfl))); (case hab_1 => exact fun _ => rfl); (try simp only [Act.put, List.setIfInBounds_toArray, List.set_cons_zero, List.set_cons_succ])
            refine wpAnyIn_take (i := 1) (oi := ?oi_2) (v := ?v_2) ?hro_2 ?ho_2 ?h1_2 ?h2_2 ?h3_2 ?hq_2 ⟨Or.inl ⟨?hw_2, ?hy_2⟩, ?hab_2⟩ ?rest_2; (case hro_2 => rfl); (case h2_2 => kernel_rfl); (case h3_2 => kernel_rfl); (case ho_2 => (simp only [List.getElem?_toArray, List.getElem?_cons_zero, List.getElem?_cons_succ]; rfl)); (case h1_2 => kernel_rfl); (case hq_2 => exact fun _ _ _ h => h); (case hw_2 => rfl); (case hy_2 => (intro w'; go_simp; (try with_reducible rfl))); (case hab_2 => exact fun _ => rfl); (try simp only [Act.put, List.setIfInBounds_toArray, List.set_cons_zero, List.set_cons_succ])
            refine wpAnyIn_take (i := 2) (oi := ?oi_3) (v := ?v_3) ?hro_3 ?ho_3 ?h1_3 ?h2_3 ?h3_3 ?hq_3 ⟨Or.inl ⟨?hw_3, ?hy_3⟩, ?hab_3⟩ ?rest_3; (case hro_3 => rfl); (case h2_3 => kernel_rfl); (case h3_3 => kernel_rfl); (case ho_3 => (simp only [List.getElem?_toArray, List.getElem?_cons_zero, List.getElem?_cons_succ]; rfl)); (case h1_3 => kernel_rfl); (case hq_3 => exact fun _ _ _ h => h); (case hw_3 => rfl); (case hy_3 => (intro w'; go_simp; (try with_reducible rfl))); (case hab_3 => exact fun _ => rfl); (try simp only [Act.put, List.setIfInBounds_toArray, List.set_cons_zero, List.set_cons_succ])
            refine wpAnyIn_take (i := 3) (oi := ?oi_4) (v := ?v_4) ?hro_4 ?ho_4 ?h1_4 ?h2_4 ?h3_4 ?hq_4 ⟨Or.inl ⟨?hw_4, ?hy_4⟩, ?hab_4⟩ ?rest_4; (case hro_4 => rfl); (case h2_4 => kernel_rfl); (case h3_4 => kernel_rfl); (case ho_4 => (simp only [List.getElem?_toArray, List.getElem?_cons_zero, List.getElem?_cons_succ]; rfl)); (case h1_4 => kernel_rfl); (case hq_4 => exact fun _ _ _ h => h); (case hw_4 => rfl); (case hy_4 => (intro w'; go_simp; (try with_reducible rfl))); (case hab_4 => exact fun _ => rfl); (try simp only [Act.put, List.setIfInBounds_toArray, List.set_cons_zero, List.set_cons_succ])
            refine wpAnyIn_take (i := 7) (oi := ?oi_5) (v := ?v_5) ?hro_5 ?ho_5 ?h1_5 ?h2_5 ?h3_5 ?hq_5 ⟨Or.inl ⟨?hw_5, ?hy_5⟩, ?hab_5⟩ ?rest_5; (case hro_5 => rfl); (case h2_5 => kernel_rfl); (case h3_5 => kernel_rfl); (case ho_5 => (simp only [List.getElem?_toArray, List.getElem?_cons_zero, List.getElem?_cons_succ]; rfl)); (case h1_5 => kernel_rfl); (case hq_5 => exact fun _ _ _ h => h); (case hw_5 => rfl); (case hy_5 => (intro w'; go_simp; (try with_reducible rfl))); (case hab_5 => exact fun _ => rfl); (try simp only [Act.put, List.setIfInBounds_toArray, List.set_cons_zero, List.set_cons_succ])
            refine wpAnyIn_ready (rs := [4]) (by kernel_rfl) (by simp) (AllReadyIn.cons (o := ?oo4_36) ?hoo4_36 (fun K hK => ?steponly36) AllReadyIn.nil); (case hoo4_36 => (simp only [List.getElem?_toArray, List.getElem?_cons_zero, List.getElem?_cons_succ]; rfl))
            go_simp
            refine hK _ _ ?_
            clear hK K
            (try simp only [Act.put, List.setIfInBounds_toArray, List.set_cons_zero, List.set_cons_succ])
            refine wpAnyIn_take (i := 5) (oi := ?oi_6) (v := ?v_6) ?hro_6 ?ho_6 ?h1_6 ?h2_6 ?h3_6 ?hq_6 ⟨Or.inl ⟨?hw_6, ?hy_6⟩, ?hab_6⟩ ?rest_6; (case hro_6 => rfl); (case h2_6 => kernel_rfl); (case h3_6 => kernel_rfl); (case ho_6 => (simp only [List.getElem?_toArray, List.getElem?_cons_zero, List.getElem?_cons_succ]; rfl)); (case h1_6 => kernel_rfl); (case hq_6 => exact fun _ _ _ h => h); (case hw_6 => rfl); (case hy_6 => (intro w'; go_simp; (try with_reducible rfl))); (case hab_6 => exact fun _ => rfl); (try simp only [Act.put, List.setIfInBounds_toArray, List.set_cons_zero, List.set_cons_succ])
            refine wpAnyIn_take (i := 6) (oi := ?oi_7) (v := ?v_7) ?hro_7 ?ho_7 ?h1_7 ?h2_7 ?h3_7 ?hq_7 ⟨Or.inl ⟨?hw_7, ?hy_7⟩, ?hab_7⟩ ?rest_7; (case hro_7 => rfl); (case h2_7 => kernel_rfl); (case h3_7 => kernel_rfl); (case ho_7 => (simp only [List.getElem?_toArray, List.getElem?_cons_zero, List.getElem?_cons_succ]; rfl)); (case h1_7 => kernel_rfl); (case hq_7 => exact fun _ _ _ h => h); (case hw_7 => rfl); (case hy_7 => (intro w'; go_simp; (try with_reducible rfl))); (case hab_7 => exact fun _ => rfl); (try simp only [Act.put, List.setIfInBounds_toArray, List.set_cons_zero, List.set_cons_succ])
            refine wpAnyIn_take (i := 8) (oi := ?oi_8) (v := ?v_8) ?hro_8 ?ho_8 ?h1_8 ?h2_8 ?h3_8 ?hq_8 ⟨Or.inl ⟨?hw_8, ?hy_8⟩, ?hab_8⟩ ?rest_8; (case hro_8 => rfl); (case h2_8 => kernel_rfl); (case h3_8 => kernel_rfl); (case ho_8 => (simp only [List.getElem?_toArray, List.getElem?_cons_zero, List.getElem?_cons_succ]; rfl)); (case h1_8 => kernel_rfl); (case hq_8 => exact fun _ _ _ h => h); (case hw_8 => rfl); (case hy_8 => (intro w'; go_simp; (try with_reducible rfl))); (case hab_8 => exact fun _ => rfl); (try simp only [Act.put, List.setIfInBounds_toArray, List.set_cons_zero, List.set_cons_succ])
            refine wpAnyIn_take (i := 9) (oi := ?oi_9) (v := ?v_9) ?hro_9 ?ho_9 ?h1_9 ?h2_9 ?h3_9 ?hq_9 ⟨Or.inl ⟨?hw_9, ?hy_9⟩, ?hab_9⟩ ?rest_9; (case hro_9 => rfl); (case h2_9 => kernel_rfl); (case h3_9 => kernel_rfl); (case ho_9 => (simp only [List.getElem?_toArray, List.getElem?_cons_zero, List.getElem?_cons_succ]; rfl)); (case h1_9 => kernel_rfl); (case hq_9 => exact fun _ _ _ h => h); (case hw_9 => rfl); (case hy_9 => (intro w'; go_simp; (try with_reducible rfl))); (case hab_9 => exact fun _ => rfl); (try simp only [Act.put, List.setIfInBounds_toArray, List.set_cons_zero, List.set_cons_succ])
            refine wpAnyIn_take (i := 10) (oi := ?oi_10) (v := ?v_10) ?hro_10 ?ho_10 ?h1_10 ?h2_10 ?h3_10 ?hq_10 ⟨Or.inl ⟨?hw_10, ?hy_10⟩, ?hab_10⟩ ?rest_10; (case hro_10 => rfl); (case h2_10 => kernel_rfl); (case h3_10 => kernel_rfl); (case ho_10 => (simp only [List.getElem?_toArray, List.getElem?_cons_zero, List.getElem?_cons_succ]; rfl)); (case h1_10 => kernel_rfl); (case hq_10 => exact fun _ _ _ h => h); (case hw_10 => rfl); (case hy_10 => (intro w'; go_simp; (try with_reducible rfl))); (case hab_10 => exact fun _ => rfl); (try simp only [Act.put, List.setIfInBounds_toArray, List.set_cons_zero, List.set_cons_succ])
            refine wpAnyIn_take (i := 11) (oi := ?oi_11) (v := ?v_11) ?hro_11 ?ho_11 ?h1_11 ?h2_11 ?h3_11 ?hq_11 ⟨Or.inl ⟨?hw_11, ?hy_11⟩, ?hab_11⟩ ?rest_11; (case hro_11 => rfl); (case h2_11 => kernel_rfl); (case h3_11 => kernel_rfl); (case ho_11 => (simp only [List.getElem?_toArray, List.getElem?_cons_zero, List.getElem?_cons_succ]; rfl)); (case h1_11 => kernel_rfl); (case hq_11 => exact fun _ _ _ h => h); (case hw_11 => rfl); (case hy_11 => (intro w'; go_simp; (try with_reducible rfl))); (case hab_11 => exact fun _ => rfl); (try simp only [Act.put, List.setIfInBounds_toArray, List.set_cons_zero, List.set_cons_succ])
            refine wpAnyIn_ready (rs := [12, 13]) (by kernel_rfl) (by simp) (AllReadyIn.cons (o := ?oo12_37) ?hoo12_37 (fun K hK => ?step12) (AllReadyIn.cons (o := ?oo13_37) ?hoo13_37 (fun K hK => ?step13) AllReadyIn.nil)); (case hoo12_37 => (simp only [List.getElem?_toArray, List.getElem?_cons_zero, List.getElem?_cons_succ]; rfl)); (case hoo13_37 => (simp only [List.getElem?_toArray, List.getElem?_cons_zero, List.getElem?_cons_succ]; rfl))
            case' step13 =>
              go_simp
              refine hK _ _ ?_
              clear hK K
              (try simp only [Act.put, List.setIfInBounds_toArray, List.set_cons_zero, List.set_cons_succ])
              refine wpAnyIn_ready (rs := [12, 14]) (by kernel_rfl) (by simp) (AllReadyIn.cons (o := ?oo12_38) ?hoo12_38 (fun K hK => ?stepX12) (AllReadyIn.cons (o := ?oo14_38) ?hoo14_38 (fun K hK => ?stepX14) AllReadyIn.nil)); (case hoo12_38 => (simp only [List.getElem?_toArray, List.getElem?_cons_zero, List.getElem?_cons_succ]; rfl)); (case hoo14_38 => (simp only [List.getElem?_toArray, List.getElem?_cons_zero, List.getElem?_cons_succ]; rfl))
            case step12 =>
              go_simp
              refine hK _ _ ?_
              clear hK K
              (try simp only [Act.put, List.setIfInBounds_toArray, List.set_cons_zero, List.set_cons_succ])
              refine wpAnyIn_ready (rs := [13]) (by kernel_rfl) (by simp) (AllReadyIn.cons (o := ?oo13_39) ?hoo13_39 (fun K hK => ?steponly39) AllReadyIn.nil); (case hoo13_39 => (simp only [List.getElem?_toArray, List.getElem?_cons_zero, List.getElem?_cons_succ]; rfl))
              go_simp
              refine hK _ _ ?_
              clear hK K
              (try simp only [Act.put, List.setIfInBounds_toArray, List.set_cons_zero, List.set_cons_succ])
              refine wpAnyIn_ready (rs := [14]) (by kernel_rfl) (by simp) (AllReadyIn.cons (o := ?oo14_40) ?hoo14_40 (fun K hK => ?steponly40) AllReadyIn.nil); (case hoo14_40 => (simp only [List.getElem?_toArray, List.getElem?_cons_zero, List.getElem?_cons_succ]; rfl))
              go_simp
              refine ⟨trivial, ?_⟩
              refine (callsIn_wide.2 hlen1).mono ?_
              rintro e w' ⟨rfl, rfl⟩
              refine hK _ _ ?_
              clear hK K
              (try simp only [Act.put, List.setIfInBounds_toArray, List.set_cons_zero, List.set_cons_succ])
              refine wpAnyIn_take (i := 15) (oi := ?oi_12) (v := ?v_12) ?hro_12 ?ho_12 ?h1_12 ?h2_12 ?h3_12 ?hq_12 ⟨Or.inl ⟨?hw_12, ?hy_12⟩, ?hab_12⟩ ?rest_12; (case hro_12 => rfl); (case h2_12 => kernel_rfl); (case h3_12 => kernel_rfl); (case ho_12 => (simp only [List.getElem?_toArray, List.getElem?_cons_zero, List.getElem?_cons_succ]; rfl)); (case h1_12 => kernel_rfl); (case hq_12 => exact fun _ _ _ h => h); (case hw_12 => rfl); (case hy_12 => (intro w'; go_simp; (try with_reducible rfl))); (case hab_12 => exact fun _ => rfl); (try simp only [Act.put, List.setIfInBounds_toArray, List.set_cons_zero, List.set_cons_succ])
              refine wpAnyIn_take (i := 16) (oi := ?oi_13) (v := ?v_13) ?hro_13 ?ho_13 ?h1_13 ?h2_13 ?h3_13 ?hq_13 ⟨Or.inl ⟨?hw_13, ?hy_13⟩, ?hab_13⟩ ?rest_13; (case hro_13 => rfl); (case h2_13 => kernel_rfl); (case h3_13 => kernel_rfl); (case ho_13 => (simp only [List.getElem?_toArray, List.getElem?_cons_zero, List.getElem?_cons_succ]; rfl)); (case h1_13 => kernel_rfl); (case hq_13 => exact fun _ _ _ h => h); (case hw_13 => rfl); (case hy_13 => (intro w'; go_simp; (try with_reducible rfl))); (case hab_13 => exact fun _ => rfl); (try simp only [Act.put, List.setIfInBounds_toArray, List.set_cons_zero, List.set_cons_succ])
              refine wpAnyIn_take (i := 17) (oi := ?oi_14) (v := ?v_14) ?hro_14 ?ho_14 ?h1_14 ?h2_14 ?h3_14 ?hq_14 ⟨Or.inl ⟨?hw_14, ?hy_14⟩, ?hab_14⟩ ?rest_14; (case hro_14 => rfl); (case h2_14 => kernel_rfl); (case h3_14 => kernel_rfl); (case ho_14 => (simp only [List.getElem?_toArray, List.getElem?_cons_zero, List.getElem?_cons_succ]; rfl)); (case h1_14 => kernel_rfl); (case hq_14 => exact fun _ _ _ h => h); (case hw_14 => rfl); (case hy_14 => (intro w'; go_simp; (try with_reducible rfl))); (case hab_14 => exact fun _ => rfl); (try simp only [Act.put, List.setIfInBounds_toArray, List.set_cons_zero, List.set_cons_succ])
              refine wpAnyIn_take (i := 18) (oi := ?oi_15) (v := ?v_15) ?hro_15 ?ho_15 ?h1_15 ?h2_15 ?h3_15 ?hq_15 ⟨Or.inl ⟨?hw_15, ?hy_15⟩, ?hab_15⟩ ?rest_15; (case hro_15 => rfl); (case h2_15 => kernel_rfl); (case h3_15 => kernel_rfl); (case ho_15 => (simp only [List.getElem?_toArray, List.getElem?_cons_zero, List.getElem?_cons_succ]; rfl)); (case h1_15 => kernel_rfl); (case hq_15 => exact fun _ _ _ h => h); (case hw_15 => rfl); (case hy_15 => (intro w'; go_simp; (try with_reducible rfl))); (case hab_15 => exact fun _ => rfl); (try simp only [Act.put, List.setIfInBounds_toArray, List.set_cons_zero, List.set_cons_succ])
              refine wpAnyIn_ready (rs := [19]) (by kernel_rfl) (by simp) (AllReadyIn.cons (o := ?oo19_41) ?hoo19_41 (fun K hK => ?steponly41) AllReadyIn.nil); (case hoo19_41 => (simp only [List.getElem?_toArray, List.getElem?_cons_zero, List.getElem?_cons_succ]; rfl))
              refine stepIn_val rfl (fun c e => by cases e) rfl (exec_load_row (x := .tmp 6) rfl rfl vr6 Try.underlying38 rfl hsl) ?_
              refine hK _ _ ?_
              clear hK K
              (try simp only [Act.put, List.setIfInBounds_toArray, List.set_cons_zero, List.set_cons_succ])
              refine wpAnyIn_ready (rs := [20]) (by kernel_rfl) (by simp) (AllReadyIn.cons (o := ?oo20_42) ?hoo20_42 (fun K hK => ?steponly42) AllReadyIn.nil); (case hoo20_42 => (simp only [List.getElem?_toArray, List.getElem?_cons_zero, List.getElem?_cons_succ]; rfl))
              go_simp
              refine RoundIn.mono hR2 ?_
              rintro e W3 ⟨t, rfl, hP⟩
              refine hK _ _ ?_
              clear hK K hy
              (try simp only [Act.put, List.setIfInBounds_toArray, List.set_cons_zero, List.set_cons_succ])
              cases t
              ·
                refine wpAnyIn_take (i := 21) (oi := ?oi_16) (v := ?v_16) ?hro_16 ?ho_16 ?h1_16 ?h2_16 ?h3_16 ?hq_16 ⟨Or.inl ⟨?hw_16, ?hy_16⟩, ?hab_16⟩ ?rest_16; (case hro_16 => rfl); (case h2_16 => kernel_rfl); (case h3_16 => kernel_rfl); (case ho_16 => (simp only [List.getElem?_toArray, List.getElem?_cons_zero, List.getElem?_cons_succ]; rfl)); (case h1_16 => kernel_rfl); (case hq_16 => exact fun _ _ _ h => h); (case hw_16 => rfl); (case hy_16 => (intro w'; go_simp; (try with_reducible rfl))); (case hab_16 => exact fun _ => rfl); (try simp only [Act.put, List.setIfInBounds_toArray, List.set_cons_zero, List.set_cons_succ])
                refine wpAnyIn_take (i := 22) (oi := ?oi_17) (v := ?v_17) ?hro_17 ?ho_17 ?h1_17 ?h2_17 ?h3_17 ?hq_17 ⟨Or.inl ⟨?hw_17, ?hy_17⟩, ?hab_17⟩ ?rest_17; (case hro_17 => rfl); (case h2_17 => kernel_rfl); (case h3_17 => kernel_rfl); (case ho_17 => (simp only [List.getElem?_toArray, List.getElem?_cons_zero, List.getElem?_cons_succ]; rfl)); (case h1_17 => kernel_rfl); (case hq_17 => exact fun _ _ _ h => h); (case hw_17 => rfl); (case hy_17 => (intro w'; go_simp; (try with_reducible rfl))); (case hab_17 => exact fun _ => rfl); (try simp only [Act.put, List.setIfInBounds_toArray, List.set_cons_zero, List.set_cons_succ])
                refine wpAnyIn_done (by kernel_rfl) ?_ _
                gi_wp2
                refine bodyPost_ret (results_none rfl _ _ _) rfl ?_
                exact ⟨⟨_, rfl⟩, .inr ⟨_, hP.out.2 (by first | rfl | trivial)⟩⟩
              ·
                refine wpAnyIn_take (i := 21) (oi := ?oi_18) (v := ?v_18) ?hro_18 ?ho_18 ?h1_18 ?h2_18 ?h3_18 ?hq_18 ⟨Or.inl ⟨?hw_18, ?hy_18⟩, ?hab_18⟩ ?rest_18; (case hro_18 => rfl); (case h2_18 => kernel_rfl); (case h3_18 => kernel_rfl); (case ho_18 => (simp only [List.getElem?_toArray, List.getElem?_cons_zero, List.getElem?_cons_succ]; rfl)); (case h1_18 => kernel_rfl); (case hq_18 => exact fun _ _ _ h => h); (case hw_18 => rfl); (case hy_18 => (intro w'; go_simp; (try with_reducible rfl))); (case hab_18 => exact fun _ => rfl); (try simp only [Act.put, List.setIfInBounds_toArray, List.set_cons_zero, List.set_cons_succ])
                refine wpAnyIn_take (i := 22) (oi := ?oi_19) (v := ?v_19) ?hro_19 ?ho_19 ?h1_19 ?h2_19 ?h3_19 ?hq_19 ⟨Or.inl ⟨?hw_19, ?hy_19⟩, ?hab_19⟩ ?rest_19; (case hro_19 => rfl); (case h2_19 => kernel_rfl); (case h3_19 => kernel_rfl); (case ho_19 => (simp only [List.getElem?_toArray, List.getElem?_cons_zero, List.getElem?_cons_succ]; rfl)); (case h1_19 => kernel_rfl); (case hq_19 => exact fun _ _ _ h => h); (case hw_19 => rfl); (case hy_19 => (intro w'; go_simp; (try with_reducible rfl))); (case hab_19 => exact fun _ => rfl); (try simp only [Act.put, List.setIfInBounds_toArray, List.set_cons_zero, List.set_cons_succ])
                refine wpAnyIn_done (by kernel_rfl) ?_ _
                gi_wp2
                obtain ⟨hJ3, hH3⟩ := hP.out.1 (by first | rfl | trivial)
                refine ⟨⟨k + 1, pre ++ [⟨s, hsok⟩], by go_num, by omega, ?_, hJ3, (hHV.out 1).trans hH3⟩, ?_⟩
                · unfold DS.seq
                  rw [HAT2.out, List.map_append, HPRE.out, if_pos rfl, ← HSD.out]
                  rfl
                · simp [intOf]; omega
            case stepX12 =>
              go_simp
              refine hK _ _ ?_
              clear hK K
              (try simp only [Act.put, List.setIfInBounds_toArray, List.set_cons_zero, List.set_cons_succ])
              refine wpAnyIn_ready (rs := [14]) (by kernel_rfl) (by simp) (AllReadyIn.cons (o := ?oo14_43) ?hoo14_43 (fun K hK => ?steponly43) AllReadyIn.nil); (case hoo14_43 => (simp only [List.getElem?_toArray, List.getElem?_cons_zero, List.getElem?_cons_succ]; rfl))
              go_simp
              refine ⟨trivial, ?_⟩
              refine (callsIn_wide.2 hlen1).mono ?_
              rintro e w' ⟨rfl, rfl⟩
              refine hK _ _ ?_
              clear hK K
              (try simp only [Act.put, List.setIfInBounds_toArray, List.set_cons_zero, List.set_cons_succ])
              refine wpAnyIn_take (i := 15) (oi := ?oi_20) (v := ?v_20) ?hro_20 ?ho_20 ?h1_20 ?h2_20 ?h3_20 ?hq_20 ⟨Or.inl ⟨?hw_20, ?hy_20⟩, ?hab_20⟩ ?rest_20; (case hro_20 => rfl); (case h2_20 => kernel_rfl); (case h3_20 => kernel_rfl); (case ho_20 => (simp only [List.getElem?_toArray, List.getElem?_cons_zero, List.getElem?_cons_succ]; rfl)); (case h1_20 => kernel_rfl); (case hq_20 => exact fun _ _ _ h => h); (case hw_20 => rfl); (case hy_20 => (intro w'; go_simp; (try with_reducible rfl))); (case hab_20 => exact fun _ => rfl); (try simp only [Act.put, List.setIfInBounds_toArray, List.set_cons_zero, List.set_cons_succ])
              refine wpAnyIn_take (i := 16) (oi := ?oi_21) (v := ?v_21) ?hro_21 ?ho_21 ?h1_21 ?h2_21 ?h3_21 ?hq_21 ⟨Or.inl ⟨?hw_21, ?hy_21⟩, ?hab_21⟩ ?rest_21; (case hro_21 => rfl); (case h2_21 => kernel_rfl); (case h3_21 => kernel_rfl); (case ho_21 => (simp only [List.getElem?_toArray, List.getElem?_cons_zero, List.getElem?_cons_succ]; rfl)); (case h1_21 => kernel_rfl); (case hq_21 => exact fun _ _ _ h => h); (case hw_21 => rfl); (case hy_21 => (intro w'; go_simp; (try with_reducible rfl))); (case hab_21 => exact fun _ => rfl); (try simp only [Act.put, List.setIfInBounds_toArray, List.set_cons_zero, List.set_cons_succ])
              refine wpAnyIn_take (i := 17) (oi := ?oi_22) (v := ?v_22) ?hro_22 ?ho_22 ?h1_22 ?h2_22 ?h3_22 ?hq_22 ⟨Or.inl ⟨?hw_22, ?hy_22⟩, ?hab_22⟩ ?rest_22; (case hro_22 => rfl); (case h2_22 => kernel_rfl); (case h3_22 => kernel_rfl); (case ho_22 => (simp only [List.getElem?_toArray, List.getElem?_cons_zero, List.getElem?_cons_succ]; rfl)); (case h1_22 => kernel_rfl); (case hq_22 => exact fun _ _ _ h => h); (case hw_22 => rfl); (case hy_22 => (intro w'; go_simp; (try with_reducible rfl))); (case hab_22 => exact fun _ => rfl); (try simp only [Act.put, List.setIfInBounds_toArray, List.set_cons_zero, List.set_cons_succ])
              refine wpAnyIn_take (i := 18) (oi := ?oi_23) (v := ?v_23) ?hro_23 ?ho_23 ?h1_23 ?h2_23 ?h3_23 ?hq_23 ⟨Or.inl ⟨?hw_23, ?hy_23⟩, ?hab_23⟩ ?rest_23; (case hro_23 => rfl); (case h2_23 => kernel_rfl); (case h3_23 => kernel_rfl); (case ho_23 => (simp only [List.getElem?_toArray, List.getElem?_cons_zero, List.getElem?_cons_succ]; rfl)); (case h1_23 => kernel_rfl); (case hq_23 => exact fun _ _ _ h => h); (case hw_23 => rfl); (case hy_23 => (intro w'; go_simp; (try with_reducible rfl))); (case hab_23 => exact fun _ => rfl); (try simp only [Act.put, List.setIfInBounds_toArray, List.set_cons_zero, List.set_cons_succ])
              refine wpAnyIn_ready (rs := [19]) (by kernel_rfl) (by simp) (AllReadyIn.cons (o := ?oo19_44) ?hoo19_44 (fun K hK => ?steponly44) AllReadyIn.nil); (case hoo19_44 => (simp only [List.getElem?_toArray, List.getElem?_cons_zero, List.getElem?_cons_succ]; rfl))
              refine stepIn_val rfl (fun c e => by cases e) rfl (exec_load_row (x := .tmp 6) rfl rfl vr6 Try.underlying38 rfl hsl) ?_
              refine hK _ _ ?_
              clear hK K
              (try simp only [Act.put, List.setIfInBounds_toArray, List.set_cons_zero, List.set_cons_succ])
              refine wpAnyIn_ready (rs := [20]) (by kernel_rfl) (by simp) (AllReadyIn.cons (o := ?oo20_45) ?hoo20_45 (fun K hK => ?steponly45) AllReadyIn.nil); (case hoo20_45 => (simp only [List.getElem?_toArray, List.getElem?_cons_zero, List.getElem?_cons_succ]; rfl))
              go_simp
              refine RoundIn.mono hR2 ?_
              rintro e W3 ⟨t, rfl, hP⟩
              refine hK _ _ ?_
              clear hK K hy
              (try simp only [Act.put, List.setIfInBounds_toArray, List.set_cons_zero, List.set_cons_succ])
              cases t
              ·
                refine wpAnyIn_take (i := 21) (oi := ?oi_24) (v := ?v_24) ?hro_24 ?ho_24 ?h1_24 ?h2_24 ?h3_24 ?hq_24 ⟨Or.inl ⟨?hw_24, ?hy_24⟩, ?hab_24⟩ ?rest_24; (case hro_24 => rfl); (case h2_24 => kernel_rfl); (case h3_24 => kernel_rfl); (case ho_24 => (simp only [List.getElem?_toArray, List.getElem?_cons_zero, List.getElem?_cons_succ]; rfl)); (case h1_24 => kernel_rfl); (case hq_24 => exact fun _ _ _ h => h); (case hw_24 => rfl); (case hy_24 => (intro w'; go_simp; (try with_reducible rfl))); (case hab_24 => exact fun _ => rfl); (try simp only [Act.put, List.setIfInBounds_toArray, List.set_cons_zero, List.set_cons_succ])
                refine wpAnyIn_take (i := 22) (oi := ?oi_25) (v := ?v_25) ?hro_25 ?ho_25 ?h1_25 ?h2_25 ?h3_25 ?hq_25 ⟨Or.inl ⟨?hw_25, ?hy_25⟩, ?hab_25⟩ ?rest_25; (case hro_25 => rfl); (case h2_25 => kernel_rfl); (case h3_25 => kernel_rfl); (case ho_25 => (simp only [List.getElem?_toArray, List.getElem?_cons_zero, List.getElem?_cons_succ]; rfl)); (case h1_25 => kernel_rfl); (case hq_25 => exact fun _ _ _ h => h); (case hw_25 => rfl); (case hy_25 => (intro w'; go_simp; (try with_reducible rfl))); (case hab_25 => exact fun _ => rfl); (try simp only [Act.put, List.setIfInBounds_toArray, List.set_cons_zero, List.set_cons_succ])
                refine wpAnyIn_done (by kernel_rfl) ?_ _
                gi_wp2
                refine bodyPost_ret (results_none rfl _ _ _) rfl ?_
                exact ⟨⟨_, rfl⟩, .inr ⟨_, hP.out.2 (by first | rfl | trivial)⟩⟩
              ·
                refine wpAnyIn_take (i := 21) (oi := ?oi_26) (v := ?v_26) ?hro_26 ?ho_26 ?h1_26 ?h2_26 ?h3_26 ?hq_26 ⟨Or.inl ⟨?hw_26, ?hy_26⟩, ?hab_26⟩ ?rest_26; (case hro_26 => rfl); (case h2_26 => kernel_rfl); (case h3_26 => kernel_rfl); (case ho_26 => (simp only [List.getElem?_toArray, List.getElem?_cons_zero, List.getElem?_cons_succ]; rfl)); (case h1_26 => kernel_rfl); (case hq_26 => exact fun _ _ _ h => h); (case hw_26 => rfl); (case hy_26 => (intro w'; go_simp; (try with_reducible rfl))); (case hab_26 => exact fun _ => rfl); (try simp only [Act.put, List.setIfInBounds_toArray, List.set_cons_zero, List.set_cons_succ])
                refine wpAnyIn_take (i := 22) (oi := ?oi_27) (v := ?v_27) ?hro_27 ?ho_27 ?h1_27 ?h2_27 ?h3_27 ?hq_27 ⟨Or.inl ⟨?hw_27, ?hy_27⟩, ?hab_27⟩ ?rest_27; (case hro_27 => rfl); (case h2_27 => kernel_rfl); (case h3_27 => kernel_rfl); (case ho_27 => (simp only [List.getElem?_toArray, List.getElem?_cons_zero, List.getElem?_cons_succ]; rfl)); (case h1_27 => kernel_rfl); (case hq_27 => exact fun _ _ _ h => h); (case hw_27 => rfl); (case hy_27 => (intro w'; go_simp; (try with_reducible rfl))); (case hab_27 => exact fun _ => rfl); (try simp only [Act.put, List.setIfInBounds_toArray, List.set_cons_zero, List.set_cons_succ])
                refine wpAnyIn_done (by kernel_rfl) ?_ _
                gi_wp2
                obtain ⟨hJ3, hH3⟩ := hP.out.1 (by first | rfl | trivial)
                refine ⟨⟨k + 1, pre ++ [⟨s, hsok⟩], by go_num, by omega, ?_, hJ3, (hHV.out 1).trans hH3⟩, ?_⟩
                · unfold DS.seq
                  rw [HAT2.out, List.map_append, HPRE.out, if_pos rfl, ← HSD.out]
                  rfl
                · simp [intOf]; omega
            case stepX14 =>
              go_simp
              refine ⟨trivial, ?_⟩
              refine (callsIn_wide.2 hlen1).mono ?_
              rintro e w' ⟨rfl, rfl⟩
              refine hK _ _ ?_
              clear hK K
              (try simp only [Act.put, List.setIfInBounds_toArray, List.set_cons_zero, List.set_cons_succ])
              refine wpAnyIn_ready (rs := [12]) (by kernel_rfl) (by simp) (AllReadyIn.cons (o := ?oo12_46) ?hoo12_46 (fun K hK => ?steponly46) AllReadyIn.nil); (case hoo12_46 => (simp only [List.getElem?_toArray, List.getElem?_cons_zero, List.getElem?_cons_succ]; rfl))
              go_simp
              refine hK _ _ ?_
              clear hK K
              (try simp only [Act.put, List.setIfInBounds_toArray, List.set_cons_zero, List.set_cons_succ])
              refine wpAnyIn_take (i := 15) (oi := ?oi_28) (v := ?v_28) ?hro_28 ?ho_28 ?h1_28 ?h2_28 ?h3_28 ?hq_28 ⟨Or.inl ⟨?hw_28, ?hy_28⟩, ?hab_28⟩ ?rest_28; (case hro_28 => rfl); (case h2_28 => kernel_rfl); (case h3_28 => kernel_rfl); (case ho_28 => (simp only [List.getElem?_toArray, List.getElem?_cons_zero, List.getElem?_cons_succ]; rfl)); (case h1_28 => kernel_rfl); (case hq_28 => exact fun _ _ _ h => h); (case hw_28 => rfl); (case hy_28 => (intro w'; go_simp; (try with_reducible rfl))); (case hab_28 => exact fun _ => rfl); (try simp only [Act.put, List.setIfInBounds_toArray, List.set_cons_zero, List.set_cons_succ])
              refine wpAnyIn_take (i := 16) (oi := ?oi_29) (v := ?v_29) ?hro_29 ?ho_29 ?h1_29 ?h2_29 ?h3_29 ?hq_29 ⟨Or.inl ⟨?hw_29, ?hy_29⟩, ?hab_29⟩ ?rest_29; (case hro_29 => rfl); (case h2_29 => kernel_rfl); (case h3_29 => kernel_rfl); (case ho_29 => (simp only [List.getElem?_toArray, List.getElem?_cons_zero, List.getElem?_cons_succ]; rfl)); (case h1_29 => kernel_rfl); (case hq_29 => exact fun _ _ _ h => h); (case hw_29 => rfl); (case hy_29 => (intro w'; go_simp; (try with_reducible rfl))); (case hab_29 => exact fun _ => rfl); (try simp only [Act.put, List.setIfInBounds_toArray, List.set_cons_zero, List.set_cons_succ])
              refine wpAnyIn_take (i := 17) (oi := ?oi_30) (v := ?v_30) ?hro_30 ?ho_30 ?h1_30 ?h2_30 ?h3_30 ?hq_30 ⟨Or.inl ⟨?hw_30, ?hy_30⟩, ?hab_30⟩ ?rest_30; (case hro_30 => rfl); (case h2_30 => kernel_rfl); (case h3_30 => kernel_rfl); (case ho_30 => (simp only [List.getElem?_toArray, List.getElem?_cons_zero, List.getElem?_cons_succ]; rfl)); (case h1_30 => kernel_rfl); (case hq_30 => exact fun _ _ _ h => h); (case hw_30 => rfl); (case hy_30 => (intro w'; go_simp; (try with_reducible rfl))); (case hab_30 => exact fun _ => rfl); (try simp only [Act.put, List.setIfInBounds_toArray, List.set_cons_zero, List.set_cons_succ])
              refine wpAnyIn_take (i := 18) (oi := ?oi_31) (v := ?v_31) ?hro_31 ?ho_31 ?h1_31 ?h2_31 ?h3_31 ?hq_31 ⟨Or.inl ⟨?hw_31, ?hy_31⟩, ?hab_31⟩ ?rest_31; (case hro_31 => rfl); (case h2_31 => kernel_rfl); (case h3_31 => kernel_rfl); (case ho_31 => (simp only [List.getElem?_toArray, List.getElem?_cons_zero, List.getElem?_cons_succ]; rfl)); (case h1_31 => kernel_rfl); (case hq_31 => exact fun _ _ _ h => h); (case hw_31 => rfl); (case hy_31 => (intro w'; go_simp; (try with_reducible rfl))); (case hab_31 => exact fun _ => rfl); (try simp only [Act.put, List.setIfInBounds_toArray, List.set_cons_zero, List.set_cons_succ])
              refine wpAnyIn_ready (rs := [19]) (by kernel_rfl) (by simp) (AllReadyIn.cons (o := ?oo19_47) ?hoo19_47 (fun K hK => ?steponly47) AllReadyIn.nil); (case hoo19_47 => (simp only [List.getElem?_toArray, List.getElem?_cons_zero, List.getElem?_cons_succ]; rfl))
              refine stepIn_val rfl (fun c e => by cases e) rfl (exec_load_row (x := .tmp 6) rfl rfl vr6 Try.underlying38 rfl hsl) ?_
              refine hK _ _ ?_
              clear hK K
              (try simp only [Act.put, List.setIfInBounds_toArray, List.set_cons_zero, List.set_cons_succ])
              refine wpAnyIn_ready (rs := [20]) (by kernel_rfl) (by simp) (AllReadyIn.cons (o := ?oo20_48) ?hoo20_48 (fun K hK => ?steponly48) AllReadyIn.nil); (case hoo20_48 => (simp only [List.getElem?_toArray, List.getElem?_cons_zero, List.getElem?_cons_succ]; rfl))
              go_simp
              refine RoundIn.mono hR2 ?_
              rintro e W3 ⟨t, rfl, hP⟩
              refine hK _ _ ?_
              clear hK K hy
              (try simp only [Act.put, List.setIfInBounds_toArray, List.set_cons_zero, List.set_cons_succ])
              cases t
              ·
                refine wpAnyIn_take (i := 21) (oi := ?oi_32) (v := ?v_32) ?hro_32 ?ho_32 ?h1_32 ?h2_32 ?h3_32 ?hq_32 ⟨Or.inl ⟨?hw_32, ?hy_32⟩, ?hab_32⟩ ?rest_32; (case hro_32 => rfl); (case h2_32 => kernel_rfl); (case h3_32 => kernel_rfl); (case ho_32 => (simp only [List.getElem?_toArray, List.getElem?_cons_zero, List.getElem?_cons_succ]; rfl)); (case h1_32 => kernel_rfl); (case hq_32 => exact fun _ _ _ h => h); (case hw_32 => rfl); (case hy_32 => (intro w'; go_simp; (try with_reducible rfl))); (case hab_32 => exact fun _ => rfl); (try simp only [Act.put, List.setIfInBounds_toArray, List.set_cons_zero, List.set_cons_succ])
                refine wpAnyIn_take (i := 22) (oi := ?oi_33) (v := ?v_33) ?hro_33 ?ho_33 ?h1_33 ?h2_33 ?h3_33 ?hq_33 ⟨Or.inl ⟨?hw_33, ?hy_33⟩, ?hab_33⟩ ?rest_33; (case hro_33 => rfl); (case h2_33 => kernel_rfl); (case h3_33 => kernel_rfl); (case ho_33 => (simp only [List.getElem?_toArray, List.getElem?_cons_zero, List.getElem?_cons_succ]; rfl)); (case h1_33 => kernel_rfl); (case hq_33 => exact fun _ _ _ h => h); (case hw_33 => rfl); (case hy_33 => (intro w'; go_simp; (try with_reducible rfl))); (case hab_33 => exact fun _ => rfl); (try simp only [Act.put, List.setIfInBounds_toArray, List.set_cons_zero, List.set_cons_succ])
                refine wpAnyIn_done (by kernel_rfl) ?_ _
                gi_wp2
                refine bodyPost_ret (results_none rfl _ _ _) rfl ?_
                exact ⟨⟨_, rfl⟩, .inr ⟨_, hP.out.2 (by first | rfl | trivial)⟩⟩
              ·
                refine wpAnyIn_take (i := 21) (oi := ?oi_34) (v := ?v_34) ?hro_34 ?ho_34 ?h1_34 ?h2_34 ?h3_34 ?hq_34 ⟨Or.inl ⟨?hw_34, ?hy_34⟩, ?hab_34⟩ ?rest_34; (case hro_34 => rfl); (case h2_34 => kernel_rfl); (case h3_34 => kernel_rfl); (case ho_34 => (simp only [List.getElem?_toArray, List.getElem?_cons_zero, List.getElem?_cons_succ]; rfl)); (case h1_34 => kernel_rfl); (case hq_34 => exact fun _ _ _ h => h); (case hw_34 => rfl); (case hy_34 => (intro w'; go_simp; (try with_reducible rfl))); (case hab_34 => exact fun _ => rfl); (try simp only [Act.put, List.setIfInBounds_toArray, List.set_cons_zero, List.set_cons_succ])
                refine wpAnyIn_take (i := 22) (oi := ?oi_35) (v := ?v_35) ?hro_35 ?ho_35 ?h1_35 ?h2_35 ?h3_35 ?hq_35 ⟨Or.inl ⟨?hw_35, ?hy_35⟩, ?hab_35⟩ ?rest_35; (case hro_35 => rfl); (case h2_35 => kernel_rfl); (case h3_35 => kernel_rfl); (case ho_35 => (simp only [List.getElem?_toArray, List.getElem?_cons_zero, List.getElem?_cons_succ]; rfl)); (case h1_35 => kernel_rfl); (case hq_35 => exact fun _ _ _ h => h); (case hw_35 => rfl); (case hy_35 => (intro w'; go_simp; (try with_reducible rfl))); (case hab_35 => exact fun _ => rfl); (try simp only [Act.put, List.setIfInBounds_toArray, List.set_cons_zero, List.set_cons_succ])
                refine wpAnyIn_done (by kernel_rfl) ?_ _
                gi_wp2
                obtain ⟨hJ3, hH3⟩ := hP.out.1 (by first | rfl | trivial)
                refine ⟨⟨k + 1, pre ++ [⟨s, hsok⟩], by go_num, by omega, ?_, hJ3, (hHV.out 1).trans hH3⟩, ?_⟩
                · unfold DS.seq
                  rw [HAT2.out, List.map_append, HPRE.out, if_pos rfl, ← HSD.out]
                  rfl
                · simp [intOf]; omega
          · have g1 : ((s.gen : Int) % 2 == (k : Int)) = true := by simpa using hm
            have g2 : decide ((s.gen : Int) % 2 = (k : Int)) = true := by simpa using hm
            have g3 : (s.blocks == (d.bl.length : Int)) = false := by simpa using hbk
            have g4 : decide (s.blocks = (d.bl.length : Int)) = false := by simpa using hbk
            have HAT2 : Hid (d.isAt k = false) := Lib.hid (by rw [HAT.out, ← hsd, g4, Bool.and_false])
            clear hm hbk hs hsd his hE HAT
            unfold dp at hlen
            refine wpIn_wide.2 ?_
            go_quiet ((go_at_call 52; exact q_same (hlen _)))
            gi_wp2
            refine ⟨⟨k + 1, pre, by go_num, by omega, by unfold DS.seq; rw [HAT2.out, HPRE.out]; simp, hJV.out nq, hHV.out nq⟩, ?_⟩
            simp [intOf]; omega
        · have g1 : ((s.gen : Int) % 2 == (k : Int)) = false := by simpa using hm
          have g2 : decide ((s.gen : Int) % 2 = (k : Int)) = false := by simpa using hm
          have g5 : decide ((decP b).gen % 2 = k) = false := by rw [← hsd]; simp; omega
          have HAT2 : Hid (d.isAt k = false) := Lib.hid (by rw [HAT.out, g5, Bool.and_false, Bool.false_and])
          clear hm hs hsd his hE HAT
          refine wpIn_wide.2 ?_
          go_quiet (fail)
          gi_wp2
          refine ⟨⟨k + 1, pre, by go_num, by omega, by unfold DS.seq; rw [HAT2.out, HPRE.out]; simp, hJV.out nq, hHV.out nq⟩, ?_⟩
          simp [intOf]; omega
    · obtain rfl : k = 2 := by omega
      gi_wp2
      refine bodyPost_end (results_none rfl _ _ _) rfl ?_
      exact ⟨⟨_, rfl⟩, .inl ⟨_, HPRE.out, hJk⟩⟩
theorem right_stops (D1 : Nat) {base p B : Nat} {v : Value} {d : DS} (X : Nat → Prop) (h1 : X D1) (hX : ∀ k, Own p B v k → X k) (hlo : d.lo.length < 1000000) (hdn : d.down = false) (w : World) (hXw : ∀ k, X k → k < w.heap.size)
    (hD1 : w.heap[D1]? = some (.cells #[dp p] 25)) (hD : Dk w base p B v d) :
    SeqStopsK Fence.wide 10 Try.prog 78 #[.pointer (some ⟨D1, 0, none⟩)] spcs (Hold X) (fun ys => ys.map Subtype.val = d.seq 2) (fun _ => True) 3 w := fun l J Jx W hW hJ _ hY h0 =>
  have hh := Hold.of_below hW hXw
  right1_in l D1 X h1 hX hlo hdn J Jx W (fun k hk => Nat.lt_of_lt_of_le (hXw k hk) hW.size) hJ (fun pre x V hV hl => hY pre x V hV hl) (hh.blk h1 hD1) (hD.below hW) h0
end Go.Proofs.Ytnkdbkgihemjnaa
