/- The walk over super.right (an iterator) and super.Newest. -/
import Derived.Test.YtnkdbkgihemjnaaSupPut
import Derived.Test.YtnkdbkgihemjnaaSupEq
import Derived.Test.YtnkdbkgihemjnaaDskRead
namespace Go.Proofs.Ytnkdbkgihemjnaa
set_option linter.unusedSimpArgs false
set_option linter.unusedVariables false
open Go.RowKit Go.ChangeShapes Go.WideShapes Go.Sort Go.Shelf
attribute [local go_sem] Oper.semAt_some

theorem right_any (p : Nat) (w : World) :
    Calls Try.prog 61 #[dp p] w fun e w' =>
      e = .returned (.func (.func 78) #[] #[.pointer (some ⟨w.heap.size, 0, none⟩)]) ∧ w.alloc (.cells #[dp p] 25) = w' := by
  unfold dp
  go_enter Try.func61, Try.ntmps61
  go_wp2
  go_ret
  exact ⟨rfl, rfl⟩

/-! ### the superblocks of a disk -/
abbrev SPO := {s : SP // s.Ok}
def spcs (x : SPO) : Array Value := #[spv x.1]
def DS.seq (d : DS) : Nat → List SP
  | 0 => []
  | k + 1 => d.seq k ++ (if d.isAt k then [decP (d.read (k : Int))] else [])
theorem seq_len (d : DS) (k : Nat) : (d.seq k).length ≤ k := by
  induction k with
  | zero => exact Nat.le_refl _
  | succ k ih => unfold DS.seq; rw [List.length_append]; split <;> simp <;> omega
def best1 (b : SP) (x : SP) : SP := if b.gen < x.gen then x else b
def bestL (l : List SP) : SP := l.foldl best1 sp0
theorem bestL_snoc (l : List SP) (x : SP) : bestL (l ++ [x]) = best1 (bestL l) x := by simp [bestL]
theorem bestL_two (p q : Bool) (A B : SP) : bestL (([] ++ if p then [A] else []) ++ if q then [B] else []) = (if q ∧ (if p ∧ sp0.gen < A.gen then A else sp0).gen < B.gen then B else (if p ∧ sp0.gen < A.gen then A else sp0)) := by
  unfold bestL
  cases p <;> cases q <;> simp [best1]
theorem bestL_seq (d : DS) : bestL (d.seq 2) = d.best := by
  unfold DS.best DS.at1
  exact bestL_two _ _ _ _
theorem bestL_ok {l : List SP} (h : ∀ x ∈ l, x.Ok) : (bestL l).Ok := by
  unfold bestL
  suffices ∀ (l : List SP) (b : SP), b.Ok → (∀ x ∈ l, x.Ok) → (l.foldl best1 b).Ok from this l sp0 sp0_ok h
  intro l
  induction l with
  | nil => intro b hb _; exact hb
  | cons x l ih =>
    intro b hb h
    refine ih _ ?_ (fun y hy => h y (by simp [hy]))
    unfold best1; split
    · exact h x (by simp)
    · exact hb

theorem isAt_iff (d : DS) (k : Nat) : d.isAt k = (isS (d.read (k : Int)) && decide ((decP (d.read (k : Int))).gen % 2 = k) && decide ((decP (d.read (k : Int))).blocks = d.bl.length)) := rfl
theorem readE_up {d : DS} (h : d.Ok) (hdn : d.down = false) {k : Nat} (hk : k < 2) : d.readE (k : Int) = 0 := by
  have := h.n16
  unfold DS.readE
  rw [DS.inB_iff.2 ⟨by omega, by omega⟩, hdn]
  rfl

theorem stepIn_val {F : Fence} {n : Nat} {P : Program} {ops : Array Oper} {o : Oper} {a : Act} {w w' : World} {K : Act → World → Prop} {Q : Exit → Act → World → Prop} {v : Value} {E : Prop} (hw : Region.wanted o (yielded ops a.tmps) = true) (hd : ∀ c, o.op ≠ .defer c) (ha : o.about P w a.eval = none)
    (hrun : (execOp a.eval o).run P w = .ok (.value v) w') (hk : K (a.put o.dst v) w') : if Region.wanted o (yielded ops a.tmps) = true then Oper.wpIn F n P o a w K Q else E := by
  rw [if_pos hw]
  refine ⟨fun c hc => (by rw [ha] at hc; cases hc), ?_⟩
  rw [Oper.semAt_eq _ _ _ hd, hrun]
  exact hk

set_option maxRecDepth 100000 in
set_option maxHeartbeats 8000000 in
theorem right1_in (l D1 : Nat) {base p B : Nat} {v : Value} {d : DS} (X : Nat → Prop) (h1 : X D1) (hX : ∀ k, Own p B v k → X k) (hlo : d.lo.length < 1000000) (hdn : d.down = false) (J Jx : List SPO → World → Prop) (W : World)
    (hXW : ∀ k, X k → k < W.heap.size)
    (hJ : AbidesFrom W.heap.size J)
    (hY : ∀ pre x W, J pre W → pre.length < 3 → YieldAt Fence.wide 9 Try.prog l (spcs x) W fun e W' =>
      (e = .returned (.bool true) ∧ J (pre ++ [x]) W' ∧ Hold X W W') ∨ (e = .returned (.bool false) ∧ Jx (pre ++ [x]) W'))
    (hD1 : W.heap[D1]? = some (.cells #[dp p] 25)) (hD : Dk W base p B v d) (h0 : J [] W) :
    CallsIn Fence.wide 10 Try.prog 78 #[.func (.yield l) #[] #[], .pointer (some ⟨D1, 0, none⟩)] W fun e W' => (∃ v, e = .returned v) ∧
      ((∃ ys, ys.map Subtype.val = d.seq 2 ∧ J ys W') ∨ (∃ pre, True ∧ Jx pre W')) := by
  have hok := hD.ok
  have HY := Lib.hid hY
  have HJ := Lib.hid hJ
  have HX := Lib.hid (And.intro hX hXW)
  have HDD := Lib.hid hD
  have hD1w := hXW _ h1
  clear hY hJ hX hXW hD
  refine callsIn_of_wp Try.func78 rfl trivial ?_ rfl
  simp only [Try.ntmps78, List.size_toArray, List.length_cons, List.length_nil, Nat.reduceAdd, Nat.reduceSub, Array.replicate_succ, Array.replicate_zero, List.push_toArray, List.append_toArray, List.nil_append, List.cons_append]
  gi_wp2
  gi_loopw [7] (fun n wr => ∃ (k : Nat) (pre : List SPO), n = .int .i64 k ∧ k ≤ 2 ∧ pre.map Subtype.val = d.seq k ∧ J pre wr ∧ Hold X W wr) (fun n _ => 2 - (intOf n).toNat)
  case atStart => exact ⟨0, [], rfl, by omega, rfl, h0, Hold.refl _ _⟩
  case round =>
    obtain ⟨k, pre, rfl, hk, hpre, hJk, hH⟩ := hrel
    have hplen : pre.length ≤ k := by have := seq_len d k; rw [← hpre, List.length_map] at this; exact this
    have HPRE := Lib.hid hpre
    clear hpre
    by_cases hlt : k < 2
    · have hDr := HDD.out.hold (fun j hj => hH.1 j (HX.out.1 j hj))
      have hd1 := hH.blk h1 hD1
      have hHs := hH.2
      have d0 := blk_cell hd1 (k := 0) rfl
      have hread := read_any hDr hlo (k : Int)
      have hE := readE_up hok hdn hlt
      have hbl := hok.read (k : Int)
      have HAT := Lib.hid (isAt_iff d k)
      rw [hE] at hread
      obtain ⟨b, hb⟩ : ∃ b, d.read (k : Int) = b := ⟨_, rfl⟩
      rw [hb] at hread hbl HAT
      have HB := Lib.hid hb
      unfold dp at hread d0
      unfold bkv at hread
      clear hb hE
      gi_wp2_with fail
      refine ⟨trivial, ?_⟩
      refine (callsIn_wide.2 hread).mono ?_
      rintro e w1 ⟨rfl, hb1⟩
      have hdec := fun W => decode_any hbl W
      unfold bkv spv at hdec
      obtain ⟨Y, hYY⟩ : ∃ Y, (w1.alloc (.cells (bvs zblk).toArray 40)).setRow w1.heap.size (bvs b).toArray = Y := ⟨_, rfl⟩
      have y4 : Y.heap[w1.heap.size]? = some (.cells (bvs b).toArray 40) := by rw [← hYY]; exact setRow_heap _ _ _ _ _ _ (heap_alloc_new _ _)
      have hbY : Below w1.heap.size w1 Y := by rw [← hYY]; exact bSetRow ((Below.refl _ _).alloc (Nat.le_refl _) _) (Nat.le_refl _) _
      have yr4 : Y.rangeAt w1.heap.size 0 (bvs b) := fun j u hj => by rw [Nat.zero_add]; exact blk_cell y4 (by simpa using hj)
      have hz1 := hb1.size
      have hbr : Below wr.heap.size wr Y := hb1.trans (hbY.mono hz1)
      clear hread
      gi_wp2_with (first
        | (refine wpListIn_val rfl (fun c e => by cases e) rfl (exec_new blkZ rfl _) ?_)
        | (refine wpListIn_skip rfl (fun c e => by cases e) rfl (exec_store_row (x := .tmp 4) (y := .tmp 14) rfl rfl rfl (heap_alloc_new _ _) (bk_info hbl) (blk_sizes zblk_len hbl) (all_oneCell_toArray (oneCell_bvs _))) ?_)
        | (refine wpListIn_val rfl (fun c e => by cases e) rfl (exec_load_row (x := .tmp 4) rfl rfl yr4 Try.underlying40 rfl (bk_len hbl)) ?_)
        | fail)
      refine ⟨trivial, ?_⟩
      refine (callsIn_wide.2 (hdec _)).mono ?_
      rintro e w2 ⟨rfl, hb2⟩
      have hsok := decS_ok hbl
      have hsi := sp_info hsok
      have hsl := sp_len hsok
      obtain ⟨s, hs⟩ : ∃ s, decS b = s := ⟨_, rfl⟩
      rw [hs] at hsok hsi hsl
      rw [hs]
      obtain ⟨V, hVV⟩ : ∃ V, (w2.alloc (.cells sp0.cells.toArray 38)).setRow w2.heap.size s.cells.toArray = V := ⟨_, rfl⟩
      have v6 : V.heap[w2.heap.size]? = some (.cells s.cells.toArray 38) := by rw [← hVV]; exact setRow_heap _ _ _ _ _ _ (heap_alloc_new _ _)
      have hbV : Below w2.heap.size w2 V := by rw [← hVV]; exact bSetRow ((Below.refl _ _).alloc (Nat.le_refl _) _) (Nat.le_refl _) _
      have hz2 := hb2.size
      have hz0 := hbr.size
      have hbrV : Below wr.heap.size wr V := hbr.trans ((hb2.trans (hbV.mono hz2)).mono hz0)
      obtain ⟨-, c0, c1, -, -, -⟩ := SpAt.of hsok v6
      have v1 := bBlk hbrV (by omega) hd1
      have e1 := blk_cell v1 (k := 0) rfl
      have hDV := hDr.below hbrV
      have hlen := fun n => len_any (hDV.below (bDrewN (Below.refl _ V) n))
      have hbwV : ∀ n, Below wr.heap.size wr (V.drewN n) := fun n => bDrewN hbrV n
      have hJV : ∀ n, J pre (V.drewN n) := fun n => HJ.out _ _ _ none hJk (grown_of_below (hbwV n)) (fun r e => by cases e)
      have hHV : ∀ n, Hold X W (V.drewN n) := fun n => hH.trans (Hold.of_below (hbwV n) (fun j hj => by have := HX.out.2 j hj; omega))
      have hJV' := Lib.hid hJV
      have hHV' := Lib.hid hHV
      clear hJV hHV
      have hJV := hJV'
      have hHV := hHV'
      clear hdec y4 yr4 hbr hb1 hb2 hbY hbV hDr hd1 d0 hYY
      gi_wp2_with (first
        | (refine wpListIn_val rfl (fun c e => by cases e) rfl (exec_new spZ rfl _) ?_)
        | (refine wpListIn_skip rfl (fun c e => by cases e) rfl (exec_store_row (x := .tmp 6) (y := .tmp 21) rfl rfl rfl (heap_alloc_new _ _) hsi (by rw [List.size_toArray, List.size_toArray, hsok.len, sp0_ok.len]) (all_oneCell_toArray (one_sp _))) ?_)
        | fail)
      cases his : isS b
      · have hE : decE b = 11 := by unfold decE; rw [his]; rfl
        rw [hE]
        refine wpIn_wide.2 ?_
        go_quiet (fail)
        gi_wp2
        rw [his] at HAT
        simp only [Bool.false_and] at HAT
        refine ⟨⟨k + 1, pre, by go_num, by omega, by unfold DS.seq; rw [HAT.out, HPRE.out]; simp, hJV.out nq, hHV.out nq⟩, ?_⟩
        simp [intOf]; omega
      · have hE : decE b = 0 := by unfold decE; rw [his]; rfl
        have hsd : s = decP b := by rw [← hs]; unfold decS; rw [his]; rfl
        rw [hE]
        by_cases hm : (s.gen : Int) % 2 = (k : Int)
        · by_cases hbk : s.blocks = (d.bl.length : Int)
          · have HAT2 : Hid (d.isAt k = true) := Lib.hid (by
              rw [HAT.out, ← hsd]
              simp only [Bool.true_and, Bool.and_eq_true, decide_eq_true_eq]
              exact ⟨⟨his, by omega⟩, hbk⟩)
            have HSD : Hid (s = decP (d.read (k : Int))) := Lib.hid (by rw [HB.out]; exact hsd)
            obtain ⟨fn, tmps, assign, body, hy, hR⟩ := HY.out pre ⟨s, hsok⟩ (V.drewN 1) (hJV.out 1) (by omega)
            simp only [spcs, spv] at hy
            have hR2 : RoundIn Fence.wide 9 Try.prog l fn tmps assign body (V.drewN 1) fun e W' => ∃ t, e = .returned (.bool t) ∧ Hid ((t = true → J (pre ++ [⟨s, hsok⟩]) W' ∧ Hold X (V.drewN 1) W') ∧ (t = false → Jx (pre ++ [⟨s, hsok⟩]) W')) := hR.mono (by
              rintro e W3 (⟨rfl, hJ3, hk3⟩ | ⟨rfl, hJx3⟩)
              · exact ⟨true, rfl, Lib.hid ⟨fun _ => ⟨hJ3, hk3⟩, (fun e => by cases e)⟩⟩
              · exact ⟨false, rfl, Lib.hid ⟨(fun e => by cases e), fun _ => hJx3⟩⟩)
            have g1 : ((s.gen : Int) % 2 == (k : Int)) = true := by simpa using hm
            have g2 : decide ((s.gen : Int) % 2 = (k : Int)) = true := by simpa using hm
            have g3 : (s.blocks == (d.bl.length : Int)) = true := by simpa using hbk
            have g4 : decide (s.blocks = (d.bl.length : Int)) = true := by simpa using hbk
            have g5 : (IntKind.i64.wrap ((s.gen : Int).tmod 2) == (k : Int)) = true := by
              rw [Int.tmod_eq_emod_of_nonneg (by omega), wrap_small _ (by omega) (by omega)]; exact g1
            have hlen1 := hlen 1
            have vr6 : (V.drewN 1).rangeAt w2.heap.size 0 s.cells := fun j u hj => by rw [Nat.zero_add]; exact blk_cell v6 (by simpa using hj)
            have hld : (loadVar 38 ⟨w2.heap.size, 0, none⟩).run Try.prog (V.drewN 1) = .ok (.agg s.cells.toArray) (V.drewN 1) := run_loadVar_row (P := Try.prog) (V.drewN 1) _ _ 38 _ _ _ v6 Try.underlying38 rfl hsi
            clear hm hbk hs hsd his hE HAT hlen hR v6
            refine wpIn_region_any (by kernel_rfl) ?_
            change wpAnyIn _ _ _ _ _ _ _ _ _ (World.drew _)
            refine wpAnyIn_take (i := 0) (oi := ?oi_50) (v := ?v_50) ?hro_50 ?ho_50 ?h1_50 ?h2_50 ?h3_50 ?hq_50 ⟨Or.inl ⟨?hw_50, ?hy_50⟩, ?hab_50⟩ ?rest_50; (case hro_50 => rfl); (case h2_50 => kernel_rfl); (case h3_50 => kernel_rfl); (case ho_50 => (simp only [List.getElem?_toArray, List.getElem?_cons_zero, List.getElem?_cons_succ]; rfl)); (case h1_50 => kernel_rfl); (case hq_50 => exact fun _ _ _ h => h); (case hw_50 => rfl); (case hy_50 => (intro w'; go_simp; (try with_reducible rfl))); (case hab_50 => exact fun _ => rfl); (try simp only [Act.put, List.setIfInBounds_toArray, List.set_cons_zero, List.set_cons_succ])
            refine wpAnyIn_take (i := 1) (oi := ?oi_51) (v := ?v_51) ?hro_51 ?ho_51 ?h1_51 ?h2_51 ?h3_51 ?hq_51 ⟨Or.inl ⟨?hw_51, ?hy_51⟩, ?hab_51⟩ ?rest_51; (case hro_51 => rfl); (case h2_51 => kernel_rfl); (case h3_51 => kernel_rfl); (case ho_51 => (simp only [List.getElem?_toArray, List.getElem?_cons_zero, List.getElem?_cons_succ]; rfl)); (case h1_51 => kernel_rfl); (case hq_51 => exact fun _ _ _ h => h); (case hw_51 => rfl); (case hy_51 => (intro w'; go_simp; (try with_reducible rfl))); (case hab_51 => exact fun _ => rfl); (try simp only [Act.put, List.setIfInBounds_toArray, List.set_cons_zero, List.set_cons_succ])
            refine wpAnyIn_take (i := 2) (oi := ?oi_52) (v := ?v_52) ?hro_52 ?ho_52 ?h1_52 ?h2_52 ?h3_52 ?hq_52 ⟨Or.inl ⟨?hw_52, ?hy_52⟩, ?hab_52⟩ ?rest_52; (case hro_52 => rfl); (case h2_52 => kernel_rfl); (case h3_52 => kernel_rfl); (case ho_52 => (simp only [List.getElem?_toArray, List.getElem?_cons_zero, List.getElem?_cons_succ]; rfl)); (case h1_52 => kernel_rfl); (case hq_52 => exact fun _ _ _ h => h); (case hw_52 => rfl); (case hy_52 => (intro w'; go_simp; (try with_reducible rfl))); (case hab_52 => exact fun _ => rfl); (try simp only [Act.put, List.setIfInBounds_toArray, List.set_cons_zero, List.set_cons_succ])
            refine wpAnyIn_take (i := 3) (oi := ?oi_53) (v := ?v_53) ?hro_53 ?ho_53 ?h1_53 ?h2_53 ?h3_53 ?hq_53 ⟨Or.inl ⟨?hw_53, ?hy_53⟩, ?hab_53⟩ ?rest_53; (case hro_53 => rfl); (case h2_53 => kernel_rfl); (case h3_53 => kernel_rfl); (case ho_53 => (simp only [List.getElem?_toArray, List.getElem?_cons_zero, List.getElem?_cons_succ]; rfl)); (case h1_53 => kernel_rfl); (case hq_53 => exact fun _ _ _ h => h); (case hw_53 => rfl); (case hy_53 => (intro w'; go_simp; (try with_reducible rfl))); (case hab_53 => exact fun _ => rfl); (try simp only [Act.put, List.setIfInBounds_toArray, List.set_cons_zero, List.set_cons_succ])
            refine wpAnyIn_take (i := 7) (oi := ?oi_54) (v := ?v_54) ?hro_54 ?ho_54 ?h1_54 ?h2_54 ?h3_54 ?hq_54 ⟨Or.inl ⟨?hw_54, ?hy_54⟩, ?hab_54⟩ ?rest_54; (case hro_54 => rfl); (case h2_54 => kernel_rfl); (case h3_54 => kernel_rfl); (case ho_54 => (simp only [List.getElem?_toArray, List.getElem?_cons_zero, List.getElem?_cons_succ]; rfl)); (case h1_54 => kernel_rfl); (case hq_54 => exact fun _ _ _ h => h); (case hw_54 => rfl); (case hy_54 => (intro w'; go_simp; (try with_reducible rfl))); (case hab_54 => exact fun _ => rfl); (try simp only [Act.put, List.setIfInBounds_toArray, List.set_cons_zero, List.set_cons_succ])
            refine wpAnyIn_ready (rs := [4]) (by kernel_rfl) (by simp) (AllReadyIn.cons (o := ?oo4_85) ?hoo4_85 (fun K hK => ?steponly85) AllReadyIn.nil); (case hoo4_85 => (simp only [List.getElem?_toArray, List.getElem?_cons_zero, List.getElem?_cons_succ]; rfl))
            go_simp
            refine hK _ _ ?_
            clear hK K
            (try simp only [Act.put, List.setIfInBounds_toArray, List.set_cons_zero, List.set_cons_succ])
            refine wpAnyIn_take (i := 5) (oi := ?oi_55) (v := ?v_55) ?hro_55 ?ho_55 ?h1_55 ?h2_55 ?h3_55 ?hq_55 ⟨Or.inl ⟨?hw_55, ?hy_55⟩, ?hab_55⟩ ?rest_55; (case hro_55 => rfl); (case h2_55 => kernel_rfl); (case h3_55 => kernel_rfl); (case ho_55 => (simp only [List.getElem?_toArray, List.getElem?_cons_zero, List.getElem?_cons_succ]; rfl)); (case h1_55 => kernel_rfl); (case hq_55 => exact fun _ _ _ h => h); (case hw_55 => rfl); (case hy_55 => (intro w'; go_simp; (try with_reducible rfl))); (case hab_55 => exact fun _ => rfl); (try simp only [Act.put, List.setIfInBounds_toArray, List.set_cons_zero, List.set_cons_succ])
            refine wpAnyIn_take (i := 6) (oi := ?oi_56) (v := ?v_56) ?hro_56 ?ho_56 ?h1_56 ?h2_56 ?h3_56 ?hq_56 ⟨Or.inl ⟨?hw_56, ?hy_56⟩, ?hab_56⟩ ?rest_56; (case hro_56 => rfl); (case h2_56 => kernel_rfl); (case h3_56 => kernel_rfl); (case ho_56 => (simp only [List.getElem?_toArray, List.getElem?_cons_zero, List.getElem?_cons_succ]; rfl)); (case h1_56 => kernel_rfl); (case hq_56 => exact fun _ _ _ h => h); (case hw_56 => rfl); (case hy_56 => (intro w'; go_simp; (try with_reducible rfl))); (case hab_56 => exact fun _ => rfl); (try simp only [Act.put, List.setIfInBounds_toArray, List.set_cons_zero, List.set_cons_succ])
            refine wpAnyIn_take (i := 8) (oi := ?oi_57) (v := ?v_57) ?hro_57 ?ho_57 ?h1_57 ?h2_57 ?h3_57 ?hq_57 ⟨Or.inl ⟨?hw_57, ?hy_57⟩, ?hab_57⟩ ?rest_57; (case hro_57 => rfl); (case h2_57 => kernel_rfl); (case h3_57 => kernel_rfl); (case ho_57 => (simp only [List.getElem?_toArray, List.getElem?_cons_zero, List.getElem?_cons_succ]; rfl)); (case h1_57 => kernel_rfl); (case hq_57 => exact fun _ _ _ h => h); (case hw_57 => rfl); (case hy_57 => (intro w'; go_simp; (try with_reducible rfl))); (case hab_57 => exact fun _ => rfl); (try simp only [Act.put, List.setIfInBounds_toArray, List.set_cons_zero, List.set_cons_succ])
            refine wpAnyIn_take (i := 9) (oi := ?oi_58) (v := ?v_58) ?hro_58 ?ho_58 ?h1_58 ?h2_58 ?h3_58 ?hq_58 ⟨Or.inl ⟨?hw_58, ?hy_58⟩, ?hab_58⟩ ?rest_58; (case hro_58 => rfl); (case h2_58 => kernel_rfl); (case h3_58 => kernel_rfl); (case ho_58 => (simp only [List.getElem?_toArray, List.getElem?_cons_zero, List.getElem?_cons_succ]; rfl)); (case h1_58 => kernel_rfl); (case hq_58 => exact fun _ _ _ h => h); (case hw_58 => rfl); (case hy_58 => (intro w'; go_simp; (try with_reducible rfl))); (case hab_58 => exact fun _ => rfl); (try simp only [Act.put, List.setIfInBounds_toArray, List.set_cons_zero, List.set_cons_succ])
            refine wpAnyIn_take (i := 10) (oi := ?oi_59) (v := ?v_59) ?hro_59 ?ho_59 ?h1_59 ?h2_59 ?h3_59 ?hq_59 ⟨Or.inl ⟨?hw_59, ?hy_59⟩, ?hab_59⟩ ?rest_59; (case hro_59 => rfl); (case h2_59 => kernel_rfl); (case h3_59 => kernel_rfl); (case ho_59 => (simp only [List.getElem?_toArray, List.getElem?_cons_zero, List.getElem?_cons_succ]; rfl)); (case h1_59 => kernel_rfl); (case hq_59 => exact fun _ _ _ h => h); (case hw_59 => rfl); (case hy_59 => (intro w'; go_simp; (try with_reducible rfl))); (case hab_59 => exact fun _ => rfl); (try simp only [Act.put, List.setIfInBounds_toArray, List.set_cons_zero, List.set_cons_succ])
            refine wpAnyIn_take (i := 11) (oi := ?oi_60) (v := ?v_60) ?hro_60 ?ho_60 ?h1_60 ?h2_60 ?h3_60 ?hq_60 ⟨Or.inl ⟨?hw_60, ?hy_60⟩, ?hab_60⟩ ?rest_60; (case hro_60 => rfl); (case h2_60 => kernel_rfl); (case h3_60 => kernel_rfl); (case ho_60 => (simp only [List.getElem?_toArray, List.getElem?_cons_zero, List.getElem?_cons_succ]; rfl)); (case h1_60 => kernel_rfl); (case hq_60 => exact fun _ _ _ h => h); (case hw_60 => rfl); (case hy_60 => (intro w'; go_simp; (try with_reducible rfl))); (case hab_60 => exact fun _ => rfl); (try simp only [Act.put, List.setIfInBounds_toArray, List.set_cons_zero, List.set_cons_succ])
            refine wpAnyIn_ready (rs := [12, 13]) (by kernel_rfl) (by simp) (AllReadyIn.cons (o := ?oo12_86) ?hoo12_86 (fun K hK => ?step12) (AllReadyIn.cons (o := ?oo13_86) ?hoo13_86 (fun K hK => ?step13) AllReadyIn.nil)); (case hoo12_86 => (simp only [List.getElem?_toArray, List.getElem?_cons_zero, List.getElem?_cons_succ]; rfl)); (case hoo13_86 => (simp only [List.getElem?_toArray, List.getElem?_cons_zero, List.getElem?_cons_succ]; rfl))
            case' step13 =>
              go_simp
              refine hK _ _ ?_
              clear hK K
              (try simp only [Act.put, List.setIfInBounds_toArray, List.set_cons_zero, List.set_cons_succ])
              refine wpAnyIn_ready (rs := [12, 14]) (by kernel_rfl) (by simp) (AllReadyIn.cons (o := ?oo12_87) ?hoo12_87 (fun K hK => ?stepX12) (AllReadyIn.cons (o := ?oo14_87) ?hoo14_87 (fun K hK => ?stepX14) AllReadyIn.nil)); (case hoo12_87 => (simp only [List.getElem?_toArray, List.getElem?_cons_zero, List.getElem?_cons_succ]; rfl)); (case hoo14_87 => (simp only [List.getElem?_toArray, List.getElem?_cons_zero, List.getElem?_cons_succ]; rfl))
            case step12 =>
              go_simp
              refine hK _ _ ?_
              clear hK K
              (try simp only [Act.put, List.setIfInBounds_toArray, List.set_cons_zero, List.set_cons_succ])
              refine wpAnyIn_ready (rs := [13]) (by kernel_rfl) (by simp) (AllReadyIn.cons (o := ?oo13_88) ?hoo13_88 (fun K hK => ?steponly88) AllReadyIn.nil); (case hoo13_88 => (simp only [List.getElem?_toArray, List.getElem?_cons_zero, List.getElem?_cons_succ]; rfl))
              go_simp
              refine hK _ _ ?_
              clear hK K
              (try simp only [Act.put, List.setIfInBounds_toArray, List.set_cons_zero, List.set_cons_succ])
              refine wpAnyIn_ready (rs := [14]) (by kernel_rfl) (by simp) (AllReadyIn.cons (o := ?oo14_89) ?hoo14_89 (fun K hK => ?steponly89) AllReadyIn.nil); (case hoo14_89 => (simp only [List.getElem?_toArray, List.getElem?_cons_zero, List.getElem?_cons_succ]; rfl))
              go_simp
              refine ⟨trivial, ?_⟩
              refine (callsIn_wide.2 hlen1).mono ?_
              rintro e w' ⟨rfl, rfl⟩
              refine hK _ _ ?_
              clear hK K
              (try simp only [Act.put, List.setIfInBounds_toArray, List.set_cons_zero, List.set_cons_succ])
              refine wpAnyIn_take (i := 15) (oi := ?oi_61) (v := ?v_61) ?hro_61 ?ho_61 ?h1_61 ?h2_61 ?h3_61 ?hq_61 ⟨Or.inl ⟨?hw_61, ?hy_61⟩, ?hab_61⟩ ?rest_61; (case hro_61 => rfl); (case h2_61 => kernel_rfl); (case h3_61 => kernel_rfl); (case ho_61 => (simp only [List.getElem?_toArray, List.getElem?_cons_zero, List.getElem?_cons_succ]; rfl)); (case h1_61 => kernel_rfl); (case hq_61 => exact fun _ _ _ h => h); (case hw_61 => rfl); (case hy_61 => (intro w'; go_simp; (try with_reducible rfl))); (case hab_61 => exact fun _ => rfl); (try simp only [Act.put, List.setIfInBounds_toArray, List.set_cons_zero, List.set_cons_succ])
              refine wpAnyIn_take (i := 16) (oi := ?oi_62) (v := ?v_62) ?hro_62 ?ho_62 ?h1_62 ?h2_62 ?h3_62 ?hq_62 ⟨Or.inl ⟨?hw_62, ?hy_62⟩, ?hab_62⟩ ?rest_62; (case hro_62 => rfl); (case h2_62 => kernel_rfl); (case h3_62 => kernel_rfl); (case ho_62 => (simp only [List.getElem?_toArray, List.getElem?_cons_zero, List.getElem?_cons_succ]; rfl)); (case h1_62 => kernel_rfl); (case hq_62 => exact fun _ _ _ h => h); (case hw_62 => rfl); (case hy_62 => (intro w'; go_simp; (try with_reducible rfl))); (case hab_62 => exact fun _ => rfl); (try simp only [Act.put, List.setIfInBounds_toArray, List.set_cons_zero, List.set_cons_succ])
              refine wpAnyIn_take (i := 17) (oi := ?oi_63) (v := ?v_63) ?hro_63 ?ho_63 ?h1_63 ?h2_63 ?h3_63 ?hq_63 ⟨Or.inl ⟨?hw_63, ?hy_63⟩, ?hab_63⟩ ?rest_63; (case hro_63 => rfl); (case h2_63 => kernel_rfl); (case h3_63 => kernel_rfl); (case ho_63 => (simp only [List.getElem?_toArray, List.getElem?_cons_zero, List.getElem?_cons_succ]; rfl)); (case h1_63 => kernel_rfl); (case hq_63 => exact fun _ _ _ h => h); (case hw_63 => rfl); (case hy_63 => (intro w'; go_simp; (try with_reducible rfl))); (case hab_63 => exact fun _ => rfl); (try simp only [Act.put, List.setIfInBounds_toArray, List.set_cons_zero, List.set_cons_succ])
              refine wpAnyIn_take (i := 18) (oi := ?oi_64) (v := ?v_64) ?hro_64 ?ho_64 ?h1_64 ?h2_64 ?h3_64 ?hq_64 ⟨Or.inl ⟨?hw_64, ?hy_64⟩, ?hab_64⟩ ?rest_64; (case hro_64 => rfl); (case h2_64 => kernel_rfl); (case h3_64 => kernel_rfl); (case ho_64 => (simp only [List.getElem?_toArray, List.getElem?_cons_zero, List.getElem?_cons_succ]; rfl)); (case h1_64 => kernel_rfl); (case hq_64 => exact fun _ _ _ h => h); (case hw_64 => rfl); (case hy_64 => (intro w'; go_simp; (try with_reducible rfl))); (case hab_64 => exact fun _ => rfl); (try simp only [Act.put, List.setIfInBounds_toArray, List.set_cons_zero, List.set_cons_succ])
              refine wpAnyIn_ready (rs := [19]) (by kernel_rfl) (by simp) (AllReadyIn.cons (o := ?oo19_90) ?hoo19_90 (fun K hK => ?steponly90) AllReadyIn.nil); (case hoo19_90 => (simp only [List.getElem?_toArray, List.getElem?_cons_zero, List.getElem?_cons_succ]; rfl))
              refine stepIn_val rfl (fun c e => by cases e) rfl (exec_load_row (x := .tmp 6) rfl rfl vr6 Try.underlying38 rfl hsl) ?_
              refine hK _ _ ?_
              clear hK K
              (try simp only [Act.put, List.setIfInBounds_toArray, List.set_cons_zero, List.set_cons_succ])
              refine wpAnyIn_ready (rs := [20]) (by kernel_rfl) (by simp) (AllReadyIn.cons (o := ?oo20_91) ?hoo20_91 (fun K hK => ?steponly91) AllReadyIn.nil); (case hoo20_91 => (simp only [List.getElem?_toArray, List.getElem?_cons_zero, List.getElem?_cons_succ]; rfl))
              go_simp
              refine RoundIn.mono hR2 ?_
              rintro e W3 ⟨t, rfl, hP⟩
              refine hK _ _ ?_
              clear hK K hy
              (try simp only [Act.put, List.setIfInBounds_toArray, List.set_cons_zero, List.set_cons_succ])
              cases t
              ·
                refine wpAnyIn_take (i := 21) (oi := ?oi_65) (v := ?v_65) ?hro_65 ?ho_65 ?h1_65 ?h2_65 ?h3_65 ?hq_65 ⟨Or.inl ⟨?hw_65, ?hy_65⟩, ?hab_65⟩ ?rest_65; (case hro_65 => rfl); (case h2_65 => kernel_rfl); (case h3_65 => kernel_rfl); (case ho_65 => (simp only [List.getElem?_toArray, List.getElem?_cons_zero, List.getElem?_cons_succ]; rfl)); (case h1_65 => kernel_rfl); (case hq_65 => exact fun _ _ _ h => h); (case hw_65 => rfl); (case hy_65 => (intro w'; go_simp; (try with_reducible rfl))); (case hab_65 => exact fun _ => rfl); (try simp only [Act.put, List.setIfInBounds_toArray, List.set_cons_zero, List.set_cons_succ])
                refine wpAnyIn_take (i := 22) (oi := ?oi_66) (v := ?v_66) ?hro_66 ?ho_66 ?h1_66 ?h2_66 ?h3_66 ?hq_66 ⟨Or.inl ⟨?hw_66, ?hy_66⟩, ?hab_66⟩ ?rest_66; (case hro_66 => rfl); (case h2_66 => kernel_rfl); (case h3_66 => kernel_rfl); (case ho_66 => (simp only [List.getElem?_toArray, List.getElem?_cons_zero, List.getElem?_cons_succ]; rfl)); (case h1_66 => kernel_rfl); (case hq_66 => exact fun _ _ _ h => h); (case hw_66 => rfl); (case hy_66 => (intro w'; go_simp; (try with_reducible rfl))); (case hab_66 => exact fun _ => rfl); (try simp only [Act.put, List.setIfInBounds_toArray, List.set_cons_zero, List.set_cons_succ])
                refine wpAnyIn_done (by kernel_rfl) ?_ _
                gi_wp2
                refine bodyPost_ret (results_none rfl _ _ _) rfl ?_
                exact ⟨⟨_, rfl⟩, .inr ⟨_, hP.out.2 (by first | rfl | trivial)⟩⟩
              ·
                refine wpAnyIn_take (i := 21) (oi := ?oi_67) (v := ?v_67) ?hro_67 ?ho_67 ?h1_67 ?h2_67 ?h3_67 ?hq_67 ⟨Or.inl ⟨?hw_67, ?hy_67⟩, ?hab_67⟩ ?rest_67; (case hro_67 => rfl); (case h2_67 => kernel_rfl); (case h3_67 => kernel_rfl); (case ho_67 => (simp only [List.getElem?_toArray, List.getElem?_cons_zero, List.getElem?_cons_succ]; rfl)); (case h1_67 => kernel_rfl); (case hq_67 => exact fun _ _ _ h => h); (case hw_67 => rfl); (case hy_67 => (intro w'; go_simp; (try with_reducible rfl))); (case hab_67 => exact fun _ => rfl); (try simp only [Act.put, List.setIfInBounds_toArray, List.set_cons_zero, List.set_cons_succ])
                refine wpAnyIn_take (i := 22) (oi := ?oi_68) (v := ?v_68) ?hro_68 ?ho_68 ?h1_68 ?h2_68 ?h3_68 ?hq_68 ⟨Or.inl ⟨?hw_68, ?hy_68⟩, ?hab_68⟩ ?rest_68; (case hro_68 => rfl); (case h2_68 => kernel_rfl); (case h3_68 => kernel_rfl); (case ho_68 => (simp only [List.getElem?_toArray, List.getElem?_cons_zero, List.getElem?_cons_succ]; rfl)); (case h1_68 => kernel_rfl); (case hq_68 => exact fun _ _ _ h => h); (case hw_68 => rfl); (case hy_68 => (intro w'; go_simp; (try with_reducible rfl))); (case hab_68 => exact fun _ => rfl); (try simp only [Act.put, List.setIfInBounds_toArray, List.set_cons_zero, List.set_cons_succ])
                refine wpAnyIn_done (by kernel_rfl) ?_ _
                gi_wp2
                obtain ⟨hJ3, hH3⟩ := hP.out.1 (by first | rfl | trivial)
                refine ⟨⟨k + 1, pre ++ [⟨s, hsok⟩], by go_num, by omega, ?_, hJ3, (hHV.out 1).trans hH3⟩, ?_⟩
                · unfold DS.seq
                  rw [HAT2.out, List.map_append, HPRE.out, if_pos rfl, ← HSD.out]
                  rfl
                · simp [intOf]; omega
            case stepX12 =>
              go_simp
              refine hK _ _ ?_
              clear hK K
              (try simp only [Act.put, List.setIfInBounds_toArray, List.set_cons_zero, List.set_cons_succ])
              refine wpAnyIn_ready (rs := [14]) (by kernel_rfl) (by simp) (AllReadyIn.cons (o := ?oo14_92) ?hoo14_92 (fun K hK => ?steponly92) AllReadyIn.nil); (case hoo14_92 => (simp only [List.getElem?_toArray, List.getElem?_cons_zero, List.getElem?_cons_succ]; rfl))
              go_simp
              refine ⟨trivial, ?_⟩
              refine (callsIn_wide.2 hlen1).mono ?_
              rintro e w' ⟨rfl, rfl⟩
              refine hK _ _ ?_
              clear hK K
              (try simp only [Act.put, List.setIfInBounds_toArray, List.set_cons_zero, List.set_cons_succ])
              refine wpAnyIn_take (i := 15) (oi := ?oi_69) (v := ?v_69) ?hro_69 ?ho_69 ?h1_69 ?h2_69 ?h3_69 ?hq_69 ⟨Or.inl ⟨?hw_69, ?hy_69⟩, ?hab_69⟩ ?rest_69; (case hro_69 => rfl); (case h2_69 => kernel_rfl); (case h3_69 => kernel_rfl); (case ho_69 => (simp only [List.getElem?_toArray, List.getElem?_cons_zero, List.getElem?_cons_succ]; rfl)); (case h1_69 => kernel_rfl); (case hq_69 => exact fun _ _ _ h => h); (case hw_69 => rfl); (case hy_69 => (intro w'; go_simp; (try with_reducible rfl))); (case hab_69 => exact fun _ => rfl); (try simp only [Act.put, List.setIfInBounds_toArray, List.set_cons_zero, List.set_cons_succ])
              refine wpAnyIn_take (i := 16) (oi := ?oi_70) (v := ?v_70) ?hro_70 ?ho_70 ?h1_70 ?h2_70 ?h3_70 ?hq_70 ⟨Or.inl ⟨?hw_70, ?hy_70⟩, ?hab_70⟩ ?rest_70; (case hro_70 => rfl); (case h2_70 => kernel_rfl); (case h3_70 => kernel_rfl); (case ho_70 => (simp only [List.getElem?_toArray, List.getElem?_cons_zero, List.getElem?_cons_succ]; rfl)); (case h1_70 => kernel_rfl); (case hq_70 => exact fun _ _ _ h => h); (case hw_70 => rfl); (case hy_70 => (intro w'; go_simp; (try with_reducible rfl))); (case hab_70 => exact fun _ => rfl); (try simp only [Act.put, List.setIfInBounds_toArray, List.set_cons_zero, List.set_cons_succ])
              refine wpAnyIn_take (i := 17) (oi := ?oi_71) (v := ?v_71) ?hro_71 ?ho_71 ?h1_71 ?h2_71 ?h3_71 ?hq_71 ⟨Or.inl ⟨?hw_71, ?hy_71⟩, ?hab_71⟩ ?rest_71; (case hro_71 => rfl); (case h2_71 => kernel_rfl); (case h3_71 => kernel_rfl); (case ho_71 => (simp only [List.getElem?_toArray, List.getElem?_cons_zero, List.getElem?_cons_succ]; rfl)); (case h1_71 => kernel_rfl); (case hq_71 => exact fun _ _ _ h => h); (case hw_71 => rfl); (case hy_71 => (intro w'; go_simp; (try with_reducible rfl))); (case hab_71 => exact fun _ => rfl); (try simp only [Act.put, List.setIfInBounds_toArray, List.set_cons_zero, List.set_cons_succ])
              refine wpAnyIn_take (i := 18) (oi := ?oi_72) (v := ?v_72) ?hro_72 ?ho_72 ?h1_72 ?h2_72 ?h3_72 ?hq_72 ⟨Or.inl ⟨?hw_72, ?hy_72⟩, ?hab_72⟩ ?rest_72; (case hro_72 => rfl); (case h2_72 => kernel_rfl); (case h3_72 => kernel_rfl); (case ho_72 => (simp only [List.getElem?_toArray, List.getElem?_cons_zero, List.getElem?_cons_succ]; rfl)); (case h1_72 => kernel_rfl); (case hq_72 => exact fun _ _ _ h => h); (case hw_72 => rfl); (case hy_72 => (intro w'; go_simp; (try with_reducible rfl))); (case hab_72 => exact fun _ => rfl); (try simp only [Act.put, List.setIfInBounds_toArray, List.set_cons_zero, List.set_cons_succ])
              refine wpAnyIn_ready (rs := [19]) (by kernel_rfl) (by simp) (AllReadyIn.cons (o := ?oo19_93) ?hoo19_93 (fun K hK => ?steponly93) AllReadyIn.nil); (case hoo19_93 => (simp only [List.getElem?_toArray, List.getElem?_cons_zero, List.getElem?_cons_succ]; rfl))
              refine stepIn_val rfl (fun c e => by cases e) rfl (exec_load_row (x := .tmp 6) rfl rfl vr6 Try.underlying38 rfl hsl) ?_
              refine hK _ _ ?_
              clear hK K
              (try simp only [Act.put, List.setIfInBounds_toArray, List.set_cons_zero, List.set_cons_succ])
              refine wpAnyIn_ready (rs := [20]) (by kernel_rfl) (by simp) (AllReadyIn.cons (o := ?oo20_94) ?hoo20_94 (fun K hK => ?steponly94) AllReadyIn.nil); (case hoo20_94 => (simp only [List.getElem?_toArray, List.getElem?_cons_zero, List.getElem?_cons_succ]; rfl))
              go_simp
              refine RoundIn.mono hR2 ?_
              rintro e W3 ⟨t, rfl, hP⟩
              refine hK _ _ ?_
              clear hK K hy
              (try simp only [Act.put, List.setIfInBounds_toArray, List.set_cons_zero, List.set_cons_succ])
              cases t
              ·
                refine wpAnyIn_take (i := 21) (oi := ?oi_73) (v := ?v_73) ?hro_73 ?ho_73 ?h1_73 ?h2_73 ?h3_73 ?hq_73 ⟨Or.inl ⟨?hw_73, ?hy_73⟩, ?hab_73⟩ ?rest_73; (case hro_73 => rfl); (case h2_73 => kernel_rfl); (case h3_73 => kernel_rfl); (case ho_73 => (simp only [List.getElem?_toArray, List.getElem?_cons_zero, List.getElem?_cons_succ]; rfl)); (case h1_73 => kernel_rfl); (case hq_73 => exact fun _ _ _ h => h); (case hw_73 => rfl); (case hy_73 => (intro w'; go_simp; (try with_reducible rfl))); (case hab_73 => exact fun _ => rfl); (try simp only [Act.put, List.setIfInBounds_toArray, List.set_cons_zero, List.set_cons_succ])
                refine wpAnyIn_take (i := 22) (oi := ?oi_74) (v := ?v_74) ?hro_74 ?ho_74 ?h1_74 ?h2_74 ?h3_74 ?hq_74 ⟨Or.inl ⟨?hw_74, ?hy_74⟩, ?hab_74⟩ ?rest_74; (case hro_74 => rfl); (case h2_74 => kernel_rfl); (case h3_74 => kernel_rfl); (case ho_74 => (simp only [List.getElem?_toArray, List.getElem?_cons_zero, List.getElem?_cons_succ]; rfl)); (case h1_74 => kernel_rfl); (case hq_74 => exact fun _ _ _ h => h); (case hw_74 => rfl); (case hy_74 => (intro w'; go_simp; (try with_reducible rfl))); (case hab_74 => exact fun _ => rfl); (try simp only [Act.put, List.setIfInBounds_toArray, List.set_cons_zero, List.set_cons_succ])
                refine wpAnyIn_done (by kernel_rfl) ?_ _
                gi_wp2
                refine bodyPost_ret (results_none rfl _ _ _) rfl ?_
                exact ⟨⟨_, rfl⟩, .inr ⟨_, hP.out.2 (by first | rfl | trivial)⟩⟩
              ·
                refine wpAnyIn_take (i := 21) (oi := ?oi_75) (v := ?v_75) ?hro_75 ?ho_75 ?h1_75 ?h2_75 ?h3_75 ?hq_75 ⟨Or.inl ⟨?hw_75, ?hy_75⟩, ?hab_75⟩ ?rest_75; (case hro_75 => rfl); (case h2_75 => kernel_rfl); (case h3_75 => kernel_rfl); (case ho_75 => (simp only [List.getElem?_toArray, List.getElem?_cons_zero, List.getElem?_cons_succ]; rfl)); (case h1_75 => kernel_rfl); (case hq_75 => exact fun _ _ _ h => h); (case hw_75 => rfl); (case hy_75 => (intro w'; go_simp; (try with_reducible rfl))); (case hab_75 => exact fun _ => rfl); (try simp only [Act.put, List.setIfInBounds_toArray, List.set_cons_zero, List.set_cons_succ])
                refine wpAnyIn_take (i := 22) (oi := ?oi_76) (v := ?v_76) ?hro_76 ?ho_76 ?h1_76 ?h2_76 ?h3_76 ?hq_76 ⟨Or.inl ⟨?hw_76, ?hy_76⟩, ?hab_76⟩ ?rest_76; (case hro_76 => rfl); (case h2_76 => kernel_rfl); (case h3_76 => kernel_rfl); (case ho_76 => (simp only [List.getElem?_toArray, List.getElem?_cons_zero, List.getElem?_cons_succ]; rfl)); (case h1_76 => kernel_rfl); (case hq_76 => exact fun _ _ _ h => h); (case hw_76 => rfl); (case hy_76 => (intro w'; go_simp; (try with_reducible rfl))); (case hab_76 => exact fun _ => rfl); (try simp only [Act.put, List.setIfInBounds_toArray, List.set_cons_zero, List.set_cons_succ])
                refine wpAnyIn_done (by kernel_rfl) ?_ _
                gi_wp2
                obtain ⟨hJ3, hH3⟩ := hP.out.1 (by first | rfl | trivial)
                refine ⟨⟨k + 1, pre ++ [⟨s, hsok⟩], by go_num, by omega, ?_, hJ3, (hHV.out 1).trans hH3⟩, ?_⟩
                · unfold DS.seq
                  rw [HAT2.out, List.map_append, HPRE.out, if_pos rfl, ← HSD.out]
                  rfl
                · simp [intOf]; omega
            case stepX14 =>
              go_simp
              refine ⟨trivial, ?_⟩
              refine (callsIn_wide.2 hlen1).mono ?_
              rintro e w' ⟨rfl, rfl⟩
              refine hK _ _ ?_
              clear hK K
              (try simp only [Act.put, List.setIfInBounds_toArray, List.set_cons_zero, List.set_cons_succ])
              refine wpAnyIn_ready (rs := [12]) (by kernel_rfl) (by simp) (AllReadyIn.cons (o := ?oo12_95) ?hoo12_95 (fun K hK => ?steponly95) AllReadyIn.nil); (case hoo12_95 => (simp only [List.getElem?_toArray, List.getElem?_cons_zero, List.getElem?_cons_succ]; rfl))
              go_simp
              refine hK _ _ ?_
              clear hK K
              (try simp only [Act.put, List.setIfInBounds_toArray, List.set_cons_zero, List.set_cons_succ])
              refine wpAnyIn_take (i := 15) (oi := ?oi_77) (v := ?v_77) ?hro_77 ?ho_77 ?h1_77 ?h2_77 ?h3_77 ?hq_77 ⟨Or.inl ⟨?hw_77, ?hy_77⟩, ?hab_77⟩ ?rest_77; (case hro_77 => rfl); (case h2_77 => kernel_rfl); (case h3_77 => kernel_rfl); (case ho_77 => (simp only [List.getElem?_toArray, List.getElem?_cons_zero, List.getElem?_cons_succ]; rfl)); (case h1_77 => kernel_rfl); (case hq_77 => exact fun _ _ _ h => h); (case hw_77 => rfl); (case hy_77 => (intro w'; go_simp; (try with_reducible rfl))); (case hab_77 => exact fun _ => rfl); (try simp only [Act.put, List.setIfInBounds_toArray, List.set_cons_zero, List.set_cons_succ])
              refine wpAnyIn_take (i := 16) (oi := ?oi_78) (v := ?v_78) ?hro_78 ?ho_78 ?h1_78 ?h2_78 ?h3_78 ?hq_78 ⟨Or.inl ⟨?hw_78, ?hy_78⟩, ?hab_78⟩ ?rest_78; (case hro_78 => rfl); (case h2_78 => kernel_rfl); (case h3_78 => kernel_rfl); (case ho_78 => (simp only [List.getElem?_toArray, List.getElem?_cons_zero, List.getElem?_cons_succ]; rfl)); (case h1_78 => kernel_rfl); (case hq_78 => exact fun _ _ _ h => h); (case hw_78 => rfl); (case hy_78 => (intro w'; go_simp; (try with_reducible rfl))); (case hab_78 => exact fun _ => rfl); (try simp only [Act.put, List.setIfInBounds_toArray, List.set_cons_zero, List.set_cons_succ])
              refine wpAnyIn_take (i := 17) (oi := ?oi_79) (v := ?v_79) ?hro_79 ?ho_79 ?h1_79 ?h2_79 ?h3_79 ?hq_79 ⟨Or.inl ⟨?hw_79, ?hy_79⟩, ?hab_79⟩ ?rest_79; (case hro_79 => rfl); (case h2_79 => kernel_rfl); (case h3_79 => kernel_rfl); (case ho_79 => (simp only [List.getElem?_toArray, List.getElem?_cons_zero, List.getElem?_cons_succ]; rfl)); (case h1_79 => kernel_rfl); (case hq_79 => exact fun _ _ _ h => h); (case hw_79 => rfl); (case hy_79 => (intro w'; go_simp; (try with_reducible rfl))); (case hab_79 => exact fun _ => rfl); (try simp only [Act.put, List.setIfInBounds_toArray, List.set_cons_zero, List.set_cons_succ])
              refine wpAnyIn_take (i := 18) (oi := ?oi_80) (v := ?v_80) ?hro_80 ?ho_80 ?h1_80 ?h2_80 ?h3_80 ?hq_80 ⟨Or.inl ⟨?hw_80, ?hy_80⟩, ?hab_80⟩ ?rest_80; (case hro_80 => rfl); (case h2_80 => kernel_rfl); (case h3_80 => kernel_rfl); (case ho_80 => (simp only [List.getElem?_toArray, List.getElem?_cons_zero, List.getElem?_cons_succ]; rfl)); (case h1_80 => kernel_rfl); (case hq_80 => exact fun _ _ _ h => h); (case hw_80 => rfl); (case hy_80 => (intro w'; go_simp; (try with_reducible rfl))); (case hab_80 => exact fun _ => rfl); (try simp only [Act.put, List.setIfInBounds_toArray, List.set_cons_zero, List.set_cons_succ])
              refine wpAnyIn_ready (rs := [19]) (by kernel_rfl) (by simp) (AllReadyIn.cons (o := ?oo19_96) ?hoo19_96 (fun K hK => ?steponly96) AllReadyIn.nil); (case hoo19_96 => (simp only [List.getElem?_toArray, List.getElem?_cons_zero, List.getElem?_cons_succ]; rfl))
              refine stepIn_val rfl (fun c e => by cases e) rfl (exec_load_row (x := .tmp 6) rfl rfl vr6 Try.underlying38 rfl hsl) ?_
              refine hK _ _ ?_
              clear hK K
              (try simp only [Act.put, List.setIfInBounds_toArray, List.set_cons_zero, List.set_cons_succ])
              refine wpAnyIn_ready (rs := [20]) (by kernel_rfl) (by simp) (AllReadyIn.cons (o := ?oo20_97) ?hoo20_97 (fun K hK => ?steponly97) AllReadyIn.nil); (case hoo20_97 => (simp only [List.getElem?_toArray, List.getElem?_cons_zero, List.getElem?_cons_succ]; rfl))
              go_simp
              refine RoundIn.mono hR2 ?_
              rintro e W3 ⟨t, rfl, hP⟩
              refine hK _ _ ?_
              clear hK K hy
              (try simp only [Act.put, List.setIfInBounds_toArray, List.set_cons_zero, List.set_cons_succ])
              cases t
              ·
                refine wpAnyIn_take (i := 21) (oi := ?oi_81) (v := ?v_81) ?hro_81 ?ho_81 ?h1_81 ?h2_81 ?h3_81 ?hq_81 ⟨Or.inl ⟨?hw_81, ?hy_81⟩, ?hab_81⟩ ?rest_81; (case hro_81 => rfl); (case h2_81 => kernel_rfl); (case h3_81 => kernel_rfl); (case ho_81 => (simp only [List.getElem?_toArray, List.getElem?_cons_zero, List.getElem?_cons_succ]; rfl)); (case h1_81 => kernel_rfl); (case hq_81 => exact fun _ _ _ h => h); (case hw_81 => rfl); (case hy_81 => (intro w'; go_simp; (try with_reducible rfl))); (case hab_81 => exact fun _ => rfl); (try simp only [Act.put, List.setIfInBounds_toArray, List.set_cons_zero, List.set_cons_succ])
                refine wpAnyIn_take (i := 22) (oi := ?oi_82) (v := ?v_82) ?hro_82 ?ho_82 ?h1_82 ?h2_82 ?h3_82 ?hq_82 ⟨Or.inl ⟨?hw_82, ?hy_82⟩, ?hab_82⟩ ?rest_82; (case hro_82 => rfl); (case h2_82 => kernel_rfl); (case h3_82 => kernel_rfl); (case ho_82 => (simp only [List.getElem?_toArray, List.getElem?_cons_zero, List.getElem?_cons_succ]; rfl)); (case h1_82 => kernel_rfl); (case hq_82 => exact fun _ _ _ h => h); (case hw_82 => rfl); (case hy_82 => (intro w'; go_simp; (try with_reducible rfl))); (case hab_82 => exact fun _ => rfl); (try simp only [Act.put, List.setIfInBounds_toArray, List.set_cons_zero, List.set_cons_succ])
                refine wpAnyIn_done (by kernel_rfl) ?_ _
                gi_wp2
                refine bodyPost_ret (results_none rfl _ _ _) rfl ?_
                exact ⟨⟨_, rfl⟩, .inr ⟨_, hP.out.2 (by first | rfl | trivial)⟩⟩
              ·
                refine wpAnyIn_take (i := 21) (oi := ?oi_83) (v := ?v_83) ?hro_83 ?ho_83 ?h1_83 ?h2_83 ?h3_83 ?hq_83 ⟨Or.inl ⟨?hw_83, ?hy_83⟩, ?hab_83⟩ ?rest_83; (case hro_83 => rfl); (case h2_83 => kernel_rfl); (case h3_83 => kernel_rfl); (case ho_83 => (simp only [List.getElem?_toArray, List.getElem?_cons_zero, List.getElem?_cons_succ]; rfl)); (case h1_83 => kernel_rfl); (case hq_83 => exact fun _ _ _ h => h); (case hw_83 => rfl); (case hy_83 => (intro w'; go_simp; (try with_reducible rfl))); (case hab_83 => exact fun _ => rfl); (try simp only [Act.put, List.setIfInBounds_toArray, List.set_cons_zero, List.set_cons_succ])
                refine wpAnyIn_take (i := 22) (oi := ?oi_84) (v := ?v_84) ?hro_84 ?ho_84 ?h1_84 ?h2_84 ?h3_84 ?hq_84 ⟨Or.inl ⟨?hw_84, ?hy_84⟩, ?hab_84⟩ ?rest_84; (case hro_84 => rfl); (case h2_84 => kernel_rfl); (case h3_84 => kernel_rfl); (case ho_84 => (simp only [List.getElem?_toArray, List.getElem?_cons_zero, List.getElem?_cons_succ]; rfl)); (case h1_84 => kernel_rfl); (case hq_84 => exact fun _ _ _ h => h); (case hw_84 => rfl); (case hy_84 => (intro w'; go_simp; (try with_reducible rfl))); (case hab_84 => exact fun _ => rfl); (try simp only [Act.put, List.setIfInBounds_toArray, List.set_cons_zero, List.set_cons_succ])
                refine wpAnyIn_done (by kernel_rfl) ?_ _
                gi_wp2
                obtain ⟨hJ3, hH3⟩ := hP.out.1 (by first | rfl | trivial)
                refine ⟨⟨k + 1, pre ++ [⟨s, hsok⟩], by go_num, by omega, ?_, hJ3, (hHV.out 1).trans hH3⟩, ?_⟩
                · unfold DS.seq
                  rw [HAT2.out, List.map_append, HPRE.out, if_pos rfl, ← HSD.out]
                  rfl
                · simp [intOf]; omega
          · have g1 : ((s.gen : Int) % 2 == (k : Int)) = true := by simpa using hm
            have g2 : decide ((s.gen : Int) % 2 = (k : Int)) = true := by simpa using hm
            have g3 : (s.blocks == (d.bl.length : Int)) = false := by simpa using hbk
            have g4 : decide (s.blocks = (d.bl.length : Int)) = false := by simpa using hbk
            have HAT2 : Hid (d.isAt k = false) := Lib.hid (by rw [HAT.out, ← hsd, g4, Bool.and_false])
            clear hm hbk hs hsd his hE HAT
            unfold dp at hlen
            refine wpIn_wide.2 ?_
            go_quiet ((go_at_call 52; exact q_same (hlen _)))
            gi_wp2
            refine ⟨⟨k + 1, pre, by go_num, by omega, by unfold DS.seq; rw [HAT2.out, HPRE.out]; simp, hJV.out nq, hHV.out nq⟩, ?_⟩
            simp [intOf]; omega
        · have g1 : ((s.gen : Int) % 2 == (k : Int)) = false := by simpa using hm
          have g2 : decide ((s.gen : Int) % 2 = (k : Int)) = false := by simpa using hm
          have g5 : decide ((decP b).gen % 2 = k) = false := by rw [← hsd]; simp; omega
          have HAT2 : Hid (d.isAt k = false) := Lib.hid (by rw [HAT.out, g5, Bool.and_false, Bool.false_and])
          clear hm hs hsd his hE HAT
          refine wpIn_wide.2 ?_
          go_quiet (fail)
          gi_wp2
          refine ⟨⟨k + 1, pre, by go_num, by omega, by unfold DS.seq; rw [HAT2.out, HPRE.out]; simp, hJV.out nq, hHV.out nq⟩, ?_⟩
          simp [intOf]; omega
    · obtain rfl : k = 2 := by omega
      gi_wp2
      refine bodyPost_end (results_none rfl _ _ _) rfl ?_
      exact ⟨⟨_, rfl⟩, .inl ⟨_, HPRE.out, hJk⟩⟩
theorem right_stops (D1 : Nat) {base p B : Nat} {v : Value} {d : DS} (X : Nat → Prop) (h1 : X D1) (hX : ∀ k, Own p B v k → X k) (hlo : d.lo.length < 1000000) (hdn : d.down = false) (w : World) (hXw : ∀ k, X k → k < w.heap.size)
    (hD1 : w.heap[D1]? = some (.cells #[dp p] 25)) (hD : Dk w base p B v d) :
    SeqStopsK Fence.wide 10 Try.prog 78 #[.pointer (some ⟨D1, 0, none⟩)] spcs (Hold X) (fun ys => ys.map Subtype.val = d.seq 2) (fun _ => True) 3 w := fun l J Jx W hW hJ _ hY h0 =>
  have hh := Hold.of_below hW hXw
  right1_in l D1 X h1 hX hlo hdn J Jx W (fun k hk => Nat.lt_of_lt_of_le (hXw k hk) hW.size) hJ (fun pre x V hV hl => hY pre x V hV hl) (hh.blk h1 hD1) (hD.below hW) h0
end Go.Proofs.Ytnkdbkgihemjnaa
