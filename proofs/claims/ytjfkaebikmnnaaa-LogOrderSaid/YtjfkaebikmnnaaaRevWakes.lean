/- The wakes of layer 24. -/
import Derived.Test.YtjfkaebikmnnaaaRevRLDec
import Derived.Test.YtjfkaebikmnnaaaRevRDec
namespace Go.Proofs.Ytjfkaebikmnnaaa
set_option linter.unusedSimpArgs false
set_option linter.unusedVariables false
open Go.RowKit Go.Sort

/-! ### the decoders at any bytes -/
theorem dec_any {A : Option Addr} {n c B : Nat} {l : List UInt8} (w : World) (hs : Sl w B 1 A n (bvs l)) (hB : B ≤ w.heap.size) (hc : n ≤ c) : Calls Try.prog 22 #[.slice A n c] w (RDec w l) := by
  have hl : l.length = n := by have := hs.len; rw [bvs_len] at this; omega
  by_cases h : n = 101
  · subst h; exact dec_full hl w hs hB hc
  · exact dec_short hl.symm h w
theorem rdec_any {A : Option Addr} {n c B : Nat} {l : List UInt8} (w : World) (hs : Sl w B 1 A n (bvs l)) (hB : B ≤ w.heap.size) (hc : n ≤ c) : Calls Try.prog 23 #[.slice A n c] w (RDec w l) := by
  have hl : l.length = n := by have := hs.len; rw [bvs_len] at this; omega
  by_cases h : n = 101
  · subst h; exact rdec_full hl w hs hB hc
  · exact rdec_short hl.symm h w
theorem ldec_any {A : Option Addr} {n c B : Nat} {l : List UInt8} (w : World) (hs : Sl w B 1 A n (bvs l)) (hB : B ≤ w.heap.size) (hc : n ≤ c) (hm : c ≤ maxLen) : Calls Try.prog 26 #[.slice A n c] w (LDec w l) := by
  by_cases h : n < 3 ∨ n ≠ 3 + (at8 l 2).toNat * 34
  · exact ldec_short w hs hB (Nat.le_trans hc hm) h
  · obtain ⟨b, o, rfl, -, -⟩ := hs.at_ (by omega)
    exact ldec_full w (by omega) rfl hs hB hc hm
theorem rldec_any {A : Option Addr} {n c B : Nat} {l : List UInt8} (w : World) (hs : Sl w B 1 A n (bvs l)) (hB : B ≤ w.heap.size) (hc : n ≤ c) (hm : c ≤ maxLen) : Calls Try.prog 27 #[.slice A n c] w (LDec w l) := by
  by_cases h : n < 3 ∨ n ≠ 3 + (at8 l 2).toNat * 34
  · exact rldec_short w hs hB (Nat.le_trans hc hm) h
  · obtain ⟨b, o, rfl, -, -⟩ := hs.at_ (by omega)
    exact rldec_full w (by omega) rfl hs hB hc hm

/-! ### the words of the wakes -/
def z31 : List UInt8 := List.replicate 31 0
def rA : RV := ⟨258, 3, 5 :: z31, List.replicate 32 0, 6 :: z31, 4⟩
def rB : RV := ⟨3, 3, List.replicate 32 0, List.replicate 32 0, List.replicate 32 0, 0⟩
def eA : LE := ⟨2, 7 :: z31⟩
def eB : LE := ⟨8, List.replicate 32 0⟩
def lA : List LE := [eA, eB]
theorem rA_ok : rA.Ok := ⟨by simp [rA], by simp [rA], by simp [rA, z31], by simp [rA], by simp [rA, z31], by simp [rA]⟩
theorem rB_ok : rB.Ok := ⟨by simp [rB], by simp [rB], by simp [rB], by simp [rB], by simp [rB], by simp [rB]⟩
theorem eA_ok : eA.Ok := ⟨by simp [eA], by simp [eA, z31]⟩
theorem eB_ok : eB.Ok := ⟨by simp [eB], by simp [eB]⟩
theorem lA_ok : ∀ x ∈ lA, x.Ok := by
  intro x hx
  simp only [lA, List.mem_cons, List.mem_nil_iff, or_false] at hx
  rcases hx with rfl | rfl
  · exact eA_ok
  · exact eB_ok
theorem words24 : ∃ (RA RB : RV) (EA EB : LE) (d5 d6 d7 : Array Value), (RA = rA ∧ RB = rB ∧ EA = eA ∧ EB = eB) ∧ Try.prog.built 41 [(0, .int .u8 5)] = some d5 ∧ Try.prog.built 41 [(0, .int .u8 6)] = some d6 ∧ Try.prog.built 41 [(0, .int .u8 7)] = some d7 ∧
    Try.prog.built 43 [(0, .int .i64 258), (1, .int .i64 3), (5, .int .i64 4), (2, .agg d5), (4, .agg d6)] = some RA.cells.toArray ∧ Try.prog.built 43 [(0, .int .i64 3), (1, .int .i64 3)] = some RB.cells.toArray ∧
    Try.prog.built 66 [(0, .int .i64 2), (1, .agg d7)] = some EA.cells.toArray ∧ Try.prog.built 66 [(0, .int .i64 8)] = some EB.cells.toArray :=
  ⟨rA, rB, eA, eB, (bvs (5 :: z31)).toArray, (bvs (6 :: z31)).toArray, (bvs (7 :: z31)).toArray, ⟨rfl, rfl, rfl, rfl⟩, by kernel_rfl, by kernel_rfl, by kernel_rfl, by kernel_rfl, by kernel_rfl, by kernel_rfl, by kernel_rfl⟩
theorem fill_parts {s : Nat} {z : Array Value} (hz : z.size = 2 * s) (a b : List Value) (ha : a.length = s) (hb : b.length = s) :
    Instr.fill (fun i => some (i * s, s)) z [(0, .agg a.toArray), (1, .agg b.toArray)] = some (a ++ b).toArray := by
  rw [fill_many (off := 0 * s) (size := s) rfl (by show a.toArray.size = s; simpa using ha) (by omega), fill_many (off := 1 * s) (size := s) rfl (by show b.toArray.size = s; simpa using hb) (by rw [setMany_size]; omega), fill_end]
  congr 1
  have hzl : z.toList.length = 2 * s := by simpa using hz
  have e1 : setMany z.toList.toArray (0 * s) a = (a ++ z.toList.drop s).toArray := by rw [Nat.zero_mul, setMany_list _ _ _ (by omega)]; simp [ha]
  have e2 : setMany (a ++ z.toList.drop s).toArray (1 * s) b = (a ++ b).toArray := by
    rw [Nat.one_mul, setMany_list _ _ _ (by simp; omega), ← ha, List.take_left, List.drop_of_length_le (by simp; omega)]
    simp
  show setMany (setMany z.toList.toArray (0 * s) a) (1 * s) b = _
  rw [e1, e2]
theorem run_slice2 {P : Program} {t e : TypeId} {s : Nat} {z : Array Value} (h : ZeroIs P e z) (hu : P.underlying t = some (.slice e)) (hz : z.size = s) (h0 : 0 < s) (h9 : s ≤ 500) (a b : List Value) (ha : a.length = s) (hb : b.length = s) (w : World) :
    (Instr.buildSlice t 2 #[(0, .agg a.toArray), (1, .agg b.toArray)]).run P w = .ok (.slice (some ⟨w.heap.size, 0, none⟩) 2 2) (w.alloc (.cells (a ++ b).toArray e)) := by
  obtain ⟨i, hi, hzz, hs⟩ := h.info
  refine run_buildSlice w t e 2 _ (a ++ b).toArray i (.agg z) hu hi hzz (by rw [hs]; omega) (by rw [hs]; omega) ?_
  rw [hs, hz]
  refine fill_parts ?_ a b ha hb
  simp [hz]
theorem rA_good : rA.good = true := by decide
theorem rB_good : rB.good = false := by decide
theorem lA_good : goodL 9 lA = true := by decide
theorem rA_rev : rvOf rA.bytes = rA ∧ isR rA.bytes = true := by
  have h := isR_bytes rA_ok rA_good
  refine ⟨?_, h⟩
  unfold rvOf; rw [h, if_pos rfl, dec_bytes rA_ok rA_good]
theorem lA_rev : logOf (bytesL 9 lA) = lA ∧ nextOf (bytesL 9 lA) = 9 ∧ isL (bytesL 9 lA) = true := by decide +kernel
theorem lA_fnd : fdx lA 8 = 1 := by decide
theorem rA_at : at8 rA.bytes 0 = 1 ∧ at8 rA.bytes 1 = 2 ∧ at8 rA.bytes 3 = 3 ∧ at8 rA.bytes 4 = 4 ∧ at8 rA.bytes 5 = 5 ∧ at8 rA.bytes 69 = 6 := by decide +kernel
theorem lA_at : at8 (bytesL 9 lA) 1 = 9 ∧ at8 (bytesL 9 lA) 2 = 2 ∧ at8 (bytesL 9 lA) 4 = 2 ∧ at8 (bytesL 9 lA) 5 = 7 := by decide +kernel

theorem wpList_slice {P : Program} {ops : Array Oper} {rest : List Oper} {o : Oper} {a : Act} {w w' : World} {Q : Exit → Act → World → Prop} (hgd : o.guard = none) (t : TypeId) (k : Nat) (parts : Array (Nat × Operand)) (ho : o.op = .buildSlice t k parts) {v : Value}
    (hrun : (Instr.buildSlice t k (parts.map fun (i, x) => (i, a.eval x))).run P w = .ok v w') (h : wpList P ops Q rest (a.put o.dst v) w') : wpList P ops Q (o :: rest) a w :=
  wpList_plain hgd fun _ hK => by
    unfold Oper.wp execOp
    simp only [ho, Sem.run_bind, hrun, Result.andThen_ok, Sem.run_pure]
    exact hK _ _ h
theorem own_lit33 {W : World} {base g n : Nat} {cs : List Value} {t : TypeId} (hb : base ≤ g) (h : W.heap[g]? = some (.cells cs.toArray t)) (hn : cs.length = n * 33) (hm : n ≤ maxLen) : W.ownsRow base t 33 (.slice (some ⟨g, 0, none⟩) n n) n cs :=
  ⟨hn, .inr ⟨g, n, cs.toArray, rfl, hb, h, Nat.le_refl _, hm, by simp [hn], by rw [← hn]; exact List.take_length⟩⟩
theorem les_two (x y : LE) : les [x, y] = x.cells ++ y.cells := by simp [les]
theorem erT : erF true = 0 := rfl
theorem erN : erF false = 11 := rfl
theorem u8c {W : World} {p : Addr} {x : UInt8} {z : Int} (h : W.cell? p = some (.int .u8 (x.toNat : Int))) (hz : (x.toNat : Int) = z) : W.cell? p = some (.int .u8 z) := by rw [h, hz]
attribute [-go_sem] Instr.buildSlice
set_option maxHeartbeats 16000000 in
set_option maxRecDepth 100000 in
theorem wakes24_any (w : World) : Calls Try.prog 18 #[] w (Ret w (.bool true)) := by
  obtain ⟨RA, RB, EA, EB, d5, d6, d7, hw, b5, b6, b7, bA, bB, bE, bF⟩ := words24
  have HW := Lib.hid hw
  have oA : RA.Ok := by rw [hw.1]; exact rA_ok
  have oB : RB.Ok := by rw [hw.2.1]; exact rB_ok
  have oE : EA.Ok := by rw [hw.2.2.1]; exact eA_ok
  have oF : EB.Ok := by rw [hw.2.2.2]; exact eB_ok
  have gA : RA.good = true := by rw [hw.1]; exact rA_good
  have gB : RB.good = false := by rw [hw.2.1]; exact rB_good
  have hEF : [EA, EB] = lA := by rw [hw.2.2.1, hw.2.2.2]; rfl
  clear hw
  have iA := rv_info oA
  have zA := rv_sizes rv0_ok oA
  have honeA := one_rv RA
  have hzR := rvZ
  have hrA := fun W => rev_any oA W
  have hrB := fun W => rev_any oB W
  rw [gA] at hrA
  rw [gB] at hrB
  have eA' : RA.enc = RA.bytes := by unfold RV.enc; rw [gA]; rfl
  have eB' : RB.enc = [] := by unfold RV.enc; rw [gB]; rfl
  rw [eA', erT] at hrA
  rw [eB', erN] at hrB
  have hAB : RA.bytes = rA.bytes := by rw [HW.out.1]
  have hlA := oA.bytes
  obtain ⟨bs, hbs⟩ : ∃ b, RA.bytes = b := ⟨_, rfl⟩
  rw [hbs] at hrA hAB hlA
  clear hbs eA' eB'
  have hsl := fun W => run_slice2 (P := Try.prog) (t := 44) leZ Try.underlying44 (by rw [List.size_toArray, le0_ok.len]) (by omega) (by omega) EA.cells EB.cells oE.len oF.len W
  unfold rvv EncP at hrA hrB
  have HRA := Lib.hid hrA
  have HRB := Lib.hid hrB
  clear hrA hrB
  go_enter Try.func18, Try.ntmps18
  have hz0 : ∃ z, rv0.cells.toArray = z := ⟨_, rfl⟩
  obtain ⟨z0, hz0⟩ := hz0
  rw [hz0] at hzR zA
  have HZ0 := Lib.hid hz0
  clear hz0
  go_upto_region 1 with (fail)
  obtain ⟨Y1, hY, y1, bY⟩ := newRow w z0 RA.cells.toArray 43
  refine wp_region_lit ?_
  refine wpList_built rfl 41 #[(0, .const (.int .u8 5))] rfl (cs := d5) (by simp only [List.map_toArray, List.map_cons, List.map_nil]; exact b5) ?_
  (try simp only [Act.put, List.setIfInBounds_toArray, List.set_cons_zero, List.set_cons_succ])
  refine wpList_built rfl 41 #[(0, .const (.int .u8 6))] rfl (cs := d6) (by simp only [List.map_toArray, List.map_cons, List.map_nil]; exact b6) ?_
  (try simp only [Act.put, List.setIfInBounds_toArray, List.set_cons_zero, List.set_cons_succ])
  refine wpList_built rfl 43 #[(0, .const (.int .i64 258)), (1, .const (.int .i64 3)), (5, .const (.int .i64 4)), (2, .tmp 15), (4, .tmp 16)] rfl (cs := RA.cells.toArray) (by simp only [List.map_toArray, List.map_cons, List.map_nil]; exact bA) ?_
  (try simp only [Act.put, List.setIfInBounds_toArray, List.set_cons_zero, List.set_cons_succ])
  refine wpList_new rfl hzR rfl ?_
  (try simp only [Act.put, List.setIfInBounds_toArray, List.set_cons_zero, List.set_cons_succ])
  refine wpList_store_row rfl 43 (.tmp 1) (.tmp 17) rfl _ RA.cells.toArray rfl rfl _ z0 (heap_alloc_new _ _) iA zA (all_oneCell_toArray honeA) ?_
  (try simp only [Act.put, List.setIfInBounds_toArray, List.set_cons_zero, List.set_cons_succ])
  go_upto_region 2 with (fail)
  try rw [hY]
  clear hY b5 b6 bA
  have l1 := (Array.getElem?_eq_some_iff.1 y1).1
  refine wp_region_lit ?_
  refine wpList_load_row rfl 43 (.tmp 1) rfl _ rfl _ RA.cells.toArray (0, 0) _ y1 Try.underlying43 rfl iA ?_
  (try simp only [Act.put, List.setIfInBounds_toArray, List.set_cons_zero, List.set_cons_succ])
  go_wp2_with fail
  refine Calls.mono (HRA.out _) ?_
  rintro e Y2 ⟨A2, n2, c2, rfl, hn2, hnc2, hcm2, -, s2, hb2⟩
  replace hn2 := hn2.trans hlA
  subst hn2
  have y12 := bBlk hb2 l1 y1
  have hB2 := bY.trans (hb2.mono bY.size)
  have hd2 := dec_any (c := c2) Y2 s2 (Nat.le_refl _) hnc2
  unfold RDec rvv at hd2
  rw [hAB, rA_rev.1, rA_rev.2, ← HW.out.1, erT] at hd2
  clear y1 hb2
  go_upto_region 3 with (fail)
  go_wp2_with fail
  refine Calls.mono hd2 ?_
  rintro e Y3 ⟨rfl, hb3⟩
  clear hd2
  obtain ⟨Y4, hY, y4, bY4⟩ := newRow Y3 z0 RA.cells.toArray 43
  have hb4 := hb3.trans (bY4.mono hb3.size)
  have y14 := bBlk hb4 (Array.getElem?_eq_some_iff.1 y12).1 y12
  have s4 := s2.next hb4
  have hB4 := hB2.trans (hb4.mono hB2.size)
  clear y12 s2 hb3 bY4 hb4
  go_upto_region 4 with (first
    | (refine wpList_new rfl hzR rfl ?_)
    | (refine wpList_store_row rfl 43 (.tmp 4) (.tmp 26) rfl _ RA.cells.toArray rfl rfl _ z0 (heap_alloc_new _ _) iA zA (all_oneCell_toArray honeA) ?_)
    | fail)
  try rw [hY]
  clear hY honeA
  obtain ⟨cE, hcE⟩ : ∃ q, EA.cells = q := ⟨_, rfl⟩
  obtain ⟨cF, hcF⟩ : ∃ q, EB.cells = q := ⟨_, rfl⟩
  have hl2 : les lA = cE ++ cF := by rw [← hEF, les_two, hcE, hcF]
  have hle := oE.len
  have hlf := oF.len
  rw [hcE] at bE hsl hle
  rw [hcF] at bF hsl hlf
  clear hcE hcF hEF
  have y5 : (Y4.alloc (.cells (cE ++ cF).toArray 66)).heap[Y4.heap.size]? = some (.cells (cE ++ cF).toArray 66) := heap_alloc_new _ _
  have hb5 : Below Y4.heap.size Y4 (Y4.alloc (.cells (cE ++ cF).toArray 66)) := (Below.refl _ _).alloc (Nat.le_refl _) _
  have hsl4 := hsl Y4
  clear hsl
  obtain ⟨Y6, hY, y6, bY6⟩ := newRow (Y4.alloc (.cells (cE ++ cF).toArray 66)) #[.int .i64 0, .slice none 0 0] #[.int .i64 9, .slice (some ⟨Y4.heap.size, 0, none⟩) 2 2] 46
  refine wp_region_lit ?_
  refine wpList_built rfl 41 #[(0, .const (.int .u8 7))] rfl (cs := d7) (by simp only [List.map_toArray, List.map_cons, List.map_nil]; exact b7) ?_
  (try simp only [Act.put, List.setIfInBounds_toArray, List.set_cons_zero, List.set_cons_succ])
  refine wpList_built rfl 66 #[(0, .const (.int .i64 2)), (1, .tmp 28)] rfl (cs := cE.toArray) (by simp only [List.map_toArray, List.map_cons, List.map_nil]; exact bE) ?_
  (try simp only [Act.put, List.setIfInBounds_toArray, List.set_cons_zero, List.set_cons_succ])
  refine wpList_built rfl 66 #[(0, .const (.int .i64 8))] rfl (cs := cF.toArray) (by simp only [List.map_toArray, List.map_cons, List.map_nil]; exact bF) ?_
  (try simp only [Act.put, List.setIfInBounds_toArray, List.set_cons_zero, List.set_cons_succ])
  refine wpList_slice rfl 44 2 #[(0, .tmp 29), (1, .tmp 30)] rfl (by simp only [List.map_toArray, List.map_cons, List.map_nil]; exact hsl4) ?_
  (try simp only [Act.put, List.setIfInBounds_toArray, List.set_cons_zero, List.set_cons_succ])
  refine wpList_built rfl 46 #[(0, .const (.int .i64 9)), (1, .tmp 31)] rfl (cs := #[.int .i64 9, .slice (some ⟨Y4.heap.size, 0, none⟩) 2 2]) (by simp only [List.map_toArray, List.map_cons, List.map_nil]; exact built_lg 9 _ _ _) ?_
  (try simp only [Act.put, List.setIfInBounds_toArray, List.set_cons_zero, List.set_cons_succ])
  refine wpList_new rfl lgZ rfl ?_
  (try simp only [Act.put, List.setIfInBounds_toArray, List.set_cons_zero, List.set_cons_succ])
  refine wpList_store_row rfl 46 (.tmp 6) (.tmp 32) rfl _ #[.int .i64 9, .slice (some ⟨Y4.heap.size, 0, none⟩) 2 2] rfl rfl _ #[.int .i64 0, .slice none 0 0] (heap_alloc_new _ _) (lg_info _ _) rfl (one_lg _ _ _ _) ?_
  (try simp only [Act.put, List.setIfInBounds_toArray, List.set_cons_zero, List.set_cons_succ])
  go_upto_region 5 with (fail)
  try rw [hY]
  clear hY b7 bE bF hsl4
  have hLg : LgAt Y6 Y6.heap.size (some ⟨Y4.heap.size, 0, none⟩) 2 2 lA := by
    refine LgAt.of_own (base := Y4.heap.size) lA_ok rfl ?_
    rw [hl2]
    exact own_lit33 (Nat.le_refl _) (bBlk bY6 (Array.getElem?_eq_some_iff.1 y5).1 y5) (by simp; omega) (by simp [maxLen])
  have hbb6 := hb5.trans (bY6.mono hb5.size)
  have y46 := bBlk hbb6 (Array.getElem?_eq_some_iff.1 y4).1 y4
  have y16 := bBlk hbb6 (Array.getElem?_eq_some_iff.1 y14).1 y14
  have s6 := s4.next hbb6
  have hB6 := hB4.trans (hbb6.mono hB4.size)
  clear hb5 bY6 y5 hbb6 y4 y14 s4 hl2 hle hlf
  have hlg := log_any (next := 9) Y6 hLg (Nat.le_refl _)
  unfold EncP lgv at hlg
  have hgl : encL 9 lA = bytesL 9 lA := by unfold encL; rw [lA_good, if_pos rfl]
  rw [hgl, lA_good, erT] at hlg
  clear hgl
  obtain ⟨bl, hbl⟩ : ∃ q, bytesL 9 lA = q := ⟨_, rfl⟩
  have hbl71 : bl.length = 71 := by rw [← hbl]; decide +kernel
  rw [hbl] at hlg
  refine wp_region_lit ?_
  refine wpList_load_row rfl 46 (.tmp 6) rfl _ rfl _ #[.int .i64 9, .slice (some ⟨Y4.heap.size, 0, none⟩) 2 2] (0, 0) _ y6 Try.underlying46 rfl (lg_info _ _) ?_
  (try simp only [Act.put, List.setIfInBounds_toArray, List.set_cons_zero, List.set_cons_succ])
  go_wp2_with fail
  refine Calls.mono hlg ?_
  rintro e Y7 ⟨A7, n7, c7, rfl, hn7, hnc7, hcm7, -, s7, hb7⟩
  replace hn7 := hn7.trans hbl71
  subst hn7
  clear hlg
  have y67 := bBlk hb7 (Array.getElem?_eq_some_iff.1 y6).1 y6
  rw [World.size_alloc] at y67
  have y47 := bBlk hb7 (Array.getElem?_eq_some_iff.1 y46).1 y46
  have y17 := bBlk hb7 (Array.getElem?_eq_some_iff.1 y16).1 y16
  have s67 := s6.next hb7
  have hLg7 := (hLg.below hb7)
  have hz67 := hb7.size
  have hB7 := hB6.trans (hb7.mono hB6.size)
  clear y6 y46 y16 s6 hLg hb7
  have hd7 := ldec_any (c := c7) Y7 s7 (Nat.le_refl _) hnc7 hcm7
  rw [← hbl] at hd7
  unfold LDec lgv at hd7
  rw [lA_rev.1, lA_rev.2.1, lA_rev.2.2, erT] at hd7
  go_upto_region 6 with (fail)
  go_wp2_with fail
  refine Calls.mono hd7 ?_
  rintro e Y8 ⟨A8, n8, c8, rfl, hL8, -, hb8⟩
  obtain rfl : n8 = 2 := hL8.len.symm
  clear hd7
  obtain ⟨Y9, hY, y9, bY9⟩ := newRow Y8 #[.int .i64 0, .slice none 0 0] #[.int .i64 9, .slice A8 2 c8] 46
  have hb9 := hb8.trans (bY9.mono hb8.size)
  have y69 := bBlk hb9 (Array.getElem?_eq_some_iff.1 y67).1 y67
  have y49 := bBlk hb9 (Array.getElem?_eq_some_iff.1 y47).1 y47
  have y19 := bBlk hb9 (Array.getElem?_eq_some_iff.1 y17).1 y17
  have s69 := s67.next hb9
  have s79 := s7.next hb9
  have hLg9 := (hLg7.below (hb9.mono hz67))
  have hL9 := hL8.below bY9
  have hz89 := bY9.size
  have hz79 := hb9.size
  have hB9 := hB7.trans (hb9.mono hB7.size)
  clear y67 y47 y17 s67 s7 hLg7 hL8 hb8 bY9 hb9
  go_upto_region 7 with (first
    | (refine wpList_new rfl lgZ rfl ?_)
    | (refine wpList_store_row rfl 46 (.tmp 9) (.tmp 41) rfl _ #[.int .i64 9, .slice A8 2 c8] rfl rfl _ #[.int .i64 0, .slice none 0 0] (heap_alloc_new _ _) (lg_info _ _) rfl (one_lg _ _ _ _) ?_)
    | fail)
  try rw [hY]
  clear hY
  have hfd := find_any (next := 9) 8 Y9 hLg9 (by omega) (by omega)
  rw [lA_fnd] at hfd
  unfold lgv retF at hfd
  rw [show max (1 : Int) 0 = 1 from rfl, show decide ((0 : Int) ≤ 1) = true from rfl] at hfd
  refine wp_region_lit ?_
  refine wpList_load_row rfl 46 (.tmp 6) rfl _ rfl _ #[.int .i64 9, .slice (some ⟨Y4.heap.size, 0, none⟩) 2 2] (0, 0) _ y69 Try.underlying46 rfl (lg_info _ _) ?_
  (try simp only [Act.put, List.setIfInBounds_toArray, List.set_cons_zero, List.set_cons_succ])
  go_wp2_with fail
  refine Calls.mono hfd ?_
  rintro e Z1 ⟨rfl, hc1⟩
  clear hfd
  go_upto_region 8 with (fail)
  refine wp_region_lit ?_
  refine wpList_built rfl 43 #[(0, .const (.int .i64 3)), (1, .const (.int .i64 3))] rfl (cs := RB.cells.toArray) (by simp only [List.map_toArray, List.map_cons, List.map_nil]; exact bB) ?_
  (try simp only [Act.put, List.setIfInBounds_toArray, List.set_cons_zero, List.set_cons_succ])
  go_wp2_with fail
  refine Calls.mono (HRB.out _) ?_
  rintro e Z2 ⟨A9, n9, c9, rfl, hn9, -, -, -, -, hc2⟩
  replace hn9 : n9 = 0 := hn9
  subst hn9
  have hbc := hc1.trans (hc2.mono hc1.size)
  have x6 := bBlk hbc (Array.getElem?_eq_some_iff.1 y69).1 y69
  have x4 := bBlk hbc (Array.getElem?_eq_some_iff.1 y49).1 y49
  have x1 := bBlk hbc (Array.getElem?_eq_some_iff.1 y19).1 y19
  have x9 := bBlk hbc (Array.getElem?_eq_some_iff.1 y9).1 y9
  have t2 := s69.next hbc
  have t7 := s79.next hbc
  have hzc := hbc.size
  have m1 := hLg9.below (hbc.mono (by omega))
  have m2 := hL9.below (hbc.mono (by omega))
  have hBz := hB9.trans (hbc.mono hB9.size)
  clear y69 y49 y19 y9 s69 s79 hLg9 hL9 hbc hc1 hc2
  obtain ⟨p2, o2, rfl, -, -⟩ := t2.at_ (by omega)
  obtain ⟨p7, o7, rfl, -, -⟩ := t7.at_ (by omega)
  have k0 := u8c (t2.cellAt rfl (i := 0) (by omega)) (z := 1) (by rw [hAB, rA_at.1]; rfl)
  have k1 := u8c (t2.cellAt rfl (i := 1) (by omega)) (z := 2) (by rw [hAB, rA_at.2.1]; rfl)
  have k3 := u8c (t2.cellAt rfl (i := 3) (by omega)) (z := 3) (by rw [hAB, rA_at.2.2.1]; rfl)
  have k4 := u8c (t2.cellAt rfl (i := 4) (by omega)) (z := 4) (by rw [hAB, rA_at.2.2.2.1]; rfl)
  have k5 := u8c (t2.cellAt rfl (i := 5) (by omega)) (z := 5) (by rw [hAB, rA_at.2.2.2.2.1]; rfl)
  have k69 := u8c (t2.cellAt rfl (i := 69) (by omega)) (z := 6) (by rw [hAB, rA_at.2.2.2.2.2]; rfl)
  have j1 := u8c (t7.cellAt rfl (i := 1) (by omega)) (z := 9) (by rw [← hbl, lA_at.1]; rfl)
  have j2 := u8c (t7.cellAt rfl (i := 2) (by omega)) (z := 2) (by rw [← hbl, lA_at.2.1]; rfl)
  have j4 := u8c (t7.cellAt rfl (i := 4) (by omega)) (z := 2) (by rw [← hbl, lA_at.2.2.1]; rfl)
  have j5 := u8c (t7.cellAt rfl (i := 5) (by omega)) (z := 7) (by rw [← hbl, lA_at.2.2.2]; rfl)
  rw [Nat.add_zero] at k0
  have hq := fun w => rv_eq oA oA w
  rw [eqV_iff.2 rfl] at hq
  have hsm := same_any (na := 9) (nb := 9) Z2 m2 m1 (by omega) (by omega) (by omega)
  unfold lgv at hsm
  rw [show sameB 9 lA 9 lA = true from decide_eq_true ⟨rfl, rfl⟩] at hsm
  have HT := Lib.hid hBz
  clear t2 t7 m1 m2 hBz hbl hbl71 hAB hlA oA oB oE oF gA gB bB HRA HRB HW hzR zA HZ0
  go_wp2_with (fail)
  refine wpList_load_row_g (o := ⟨some 101, _, _, _, _, _⟩) ?_ 43 (.tmp 4) rfl _ rfl _ RA.cells.toArray (0, 0) _ x4 Try.underlying43 rfl iA ?_
  · rfl
  (try simp only [Act.put, List.setIfInBounds_toArray, List.set_cons_zero, List.set_cons_succ])
  refine wpList_load_row_g (o := ⟨some 102, _, _, _, _, _⟩) ?_ 43 (.tmp 1) rfl _ rfl _ RA.cells.toArray (0, 0) _ x1 Try.underlying43 rfl iA ?_
  · rfl
  (try simp only [Act.put, List.setIfInBounds_toArray, List.set_cons_zero, List.set_cons_succ])
  go_wp2_with (first
    | (refine wpList_load_row_g (o := ⟨some 143, _, _, _, _, _⟩) (by rfl) 46 (.tmp 9) rfl _ rfl _ #[.int .i64 9, .slice A8 2 c8] (0, 0) _ x9 Try.underlying46 rfl (lg_info _ _) ?_)
    | (refine wpList_load_row_g (o := ⟨some 144, _, _, _, _, _⟩) (by rfl) 46 (.tmp 6) rfl _ rfl _ #[.int .i64 9, .slice (some ⟨Y4.heap.size, 0, none⟩) 2 2] (0, 0) _ x6 Try.underlying46 rfl (lg_info _ _) ?_)
    | (go_at_call 30; refine Calls.mono hsm ?_; rintro e Z3 ⟨rfl, hc3⟩)
    | fail)
  go_ret
  exact Ret.mk rfl (HT.out.trans (hc3.mono HT.out.size))
end Go.Proofs.Ytjfkaebikmnnaaa
