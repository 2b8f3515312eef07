/- The wakes of layer 5. (s7/lfwakes.py writes it.) -/
import Derived.Test.YthmjkgpfnpdddaaLfDec
import Derived.Test.YthmjkgpfnpdddaaLfLvs
import Derived.Deep.CutRange
namespace Go.Proofs.Ythmjkgpfnpdddaa
set_option linter.unusedSimpArgs false
set_option linter.unusedVariables false
open Go.RowKit Go.ChangeShapes Go.WideShapes Go.Sort

def z31 : List UInt8 := List.replicate 31 0
def ew1 : EN := ⟨1 :: z31, 9, 2, 258⟩
def ew2 : EN := ⟨2 :: z31, 5, 1, 0⟩
theorem ew1_ok : ew1.Ok := ⟨by simp [ew1, z31], by simp [ew1], by simp [ew1], by simp [ew1]⟩
theorem ew2_ok : ew2.Ok := ⟨by simp [ew2, z31], by simp [ew2], by simp [ew2], by simp [ew2]⟩
theorem ew_ok : ∀ x ∈ [ew1, ew2], x.Ok := by
  intro x hx
  simp only [List.mem_cons, List.mem_nil_iff, or_false] at hx
  rcases hx with rfl | rfl
  · exact ew1_ok
  · exact ew2_ok
theorem words05 : ∃ (E1 E2 : EN) (d1 d2 : Array Value), (E1 = ew1 ∧ E2 = ew2) ∧ Try.prog.built 71 [(0, .int .u8 1)] = some d1 ∧ Try.prog.built 71 [(0, .int .u8 2)] = some d2 ∧
    Try.prog.built 73 [(0, .agg d1), (1, .int .i64 9), (2, .int .i64 2), (3, .int .i64 258)] = some E1.cells.toArray ∧ Try.prog.built 73 [(0, .agg d2), (1, .int .i64 5), (2, .int .i64 1)] = some E2.cells.toArray :=
  ⟨ew1, ew2, (bvs (1 :: z31)).toArray, (bvs (2 :: z31)).toArray, ⟨rfl, rfl⟩, by kernel_rfl, by kernel_rfl, by kernel_rfl, by kernel_rfl⟩
theorem ew_good : goodE [ew1, ew2] = true := by decide +kernel
theorem ew_bad : goodE [ew2, ew1] = false := by decide +kernel
theorem ew_len : (lfB [ew1, ew2]).length = 74 := lfB_len ew_ok
theorem ew_at {i : Nat} (h : i < 74) : at8 (lfEnc [ew1, ew2]) i = at8 (lfB [ew1, ew2]) i := by
  unfold lfEnc
  rw [ew_good, if_pos rfl, seal_at (by rw [ew_len]; exact h)]
theorem ew_bytes : at8 (lfB [ew1, ew2]) 0 = 76 ∧ at8 (lfB [ew1, ew2]) 1 = 2 ∧ at8 (lfB [ew1, ew2]) 2 = 1 ∧ at8 (lfB [ew1, ew2]) 34 = 9 ∧ at8 (lfB [ew1, ew2]) 35 = 2 ∧ at8 (lfB [ew1, ew2]) 36 = 1 ∧ at8 (lfB [ew1, ew2]) 37 = 2 := by decide +kernel
theorem pw_good : goodR [7, 3] = true := by decide +kernel
theorem pw_at {i : Nat} (h : i < 4) : at8 (rtEnc [7, 3]) i = at8 (rtB [7, 3]) i := by
  unfold rtEnc
  rw [pw_good, if_pos rfl, seal_at (by rw [rtB_len]; exact h)]
theorem pw_bytes : at8 (rtB [7, 3]) 0 = 82 ∧ at8 (rtB [7, 3]) 2 = 7 := by decide +kernel
theorem fill_parts {s : Nat} {z : Array Value} (hz : z.size = 2 * s) (a b : List Value) (ha : a.length = s) (hb : b.length = s) :
    Instr.fill (fun i => some (i * s, s)) z [(0, .agg a.toArray), (1, .agg b.toArray)] = some (a ++ b).toArray := by
  rw [fill_many (off := 0 * s) (size := s) rfl (by show a.toArray.size = s; simpa using ha) (by omega), fill_many (off := 1 * s) (size := s) rfl (by show b.toArray.size = s; simpa using hb) (by rw [setMany_size]; omega), fill_end]
  congr 1
  have hzl : z.toList.length = 2 * s := by simpa using hz
  have e1 : setMany z.toList.toArray (0 * s) a = (a ++ z.toList.drop s).toArray := by rw [Nat.zero_mul, setMany_list _ _ _ (by omega)]; simp [ha]
  have e2 : setMany (a ++ z.toList.drop s).toArray (1 * s) b = (a ++ b).toArray := by
    rw [Nat.one_mul, setMany_list _ _ _ (by simp; omega), ← ha, List.take_left, List.drop_of_length_le (by simp; omega)]
    simp
  show setMany (setMany z.toList.toArray (0 * s) a) (1 * s) b = _
  rw [e1, e2]
theorem run_slice2 {P : Program} {t e : TypeId} {s : Nat} {z : Array Value} (h : ZeroIs P e z) (hu : P.underlying t = some (.slice e)) (hz : z.size = s) (h0 : 0 < s) (h9 : s ≤ 500) (a b : List Value) (ha : a.length = s) (hb : b.length = s) (w : World) :
    (Instr.buildSlice t 2 #[(0, .agg a.toArray), (1, .agg b.toArray)]).run P w = .ok (.slice (some ⟨w.heap.size, 0, none⟩) 2 2) (w.alloc (.cells (a ++ b).toArray e)) := by
  obtain ⟨i, hi, hzz, hs⟩ := h.info
  refine run_buildSlice w t e 2 _ (a ++ b).toArray i (.agg z) hu hi hzz (by rw [hs]; omega) (by rw [hs]; omega) ?_
  rw [hs, hz]
  refine fill_parts ?_ a b ha hb
  simp [hz]
theorem wpList_slice {P : Program} {ops : Array Oper} {rest : List Oper} {o : Oper} {a : Act} {w w' : World} {Q : Exit → Act → World → Prop} (hgd : o.guard = none) (t : TypeId) (k : Nat) (parts : Array (Nat × Operand)) (ho : o.op = .buildSlice t k parts) {v : Value}
    (hrun : (Instr.buildSlice t k (parts.map fun (i, x) => (i, a.eval x))).run P w = .ok v w') (h : wpList P ops Q rest (a.put o.dst v) w') : wpList P ops Q (o :: rest) a w :=
  wpList_plain hgd fun _ hK => by
    unfold Oper.wp execOp
    simp only [ho, Sem.run_bind, hrun, Result.andThen_ok, Sem.run_pure]
    exact hK _ _ h
theorem ints2 (a b : Int) (w : World) : (Instr.buildSlice 50 2 #[(0, .int .i64 a), (1, .int .i64 b)]).run Try.prog w = .ok (.slice (some ⟨w.heap.size, 0, none⟩) 2 2) (w.alloc (.cells #[.int .i64 a, .int .i64 b] 3)) := by
  go_simp
theorem u8c {W : World} {p : Addr} {x : UInt8} {z : Int} (h : W.cell? p = some (.int .u8 (x.toNat : Int))) (hz : (x.toNat : Int) = z) : W.cell? p = some (.int .u8 z) := by rw [h, hz]
theorem two_at {W : World} {g : Nat} {a b : EN} {cs : List Value} (h : W.heap[g]? = some (.cells cs.toArray 73)) (hc : cs = ens [a, b]) (ha : a.Ok) (hb : b.Ok) : LfAt W W.heap.size (some ⟨g, 0, none⟩) 2 2 [a, b] := by
  have hok : ∀ x ∈ [a, b], x.Ok := by
    intro x hx
    simp only [List.mem_cons, List.mem_nil_iff, or_false] at hx
    rcases hx with rfl | rfl
    · exact ha
    · exact hb
  refine ⟨hok, rfl, ?_, Nat.le_refl _⟩
  have := Sl.new (sz := 35) (n := 2) h (by rw [hc]; simp [ens, ha.len, hb.len])
  rw [← hc]
  exact this
theorem ens_two (a b : EN) : ens [a, b] = a.cells ++ b.cells := by simp [ens]
theorem lit_ints {W : World} {g : Nat} {l : List Int} {n : Nat} (h : W.heap[g]? = some (.cells (ivs l).toArray 3)) (hl : l.length = n) (hw : ∀ x ∈ l, -9223372036854775808 ≤ x ∧ x ≤ 9223372036854775807) : IvAt W W.heap.size (some ⟨g, 0, none⟩) n n l :=
  ⟨hw, hl, Sl.new (sz := 1) (n := n) h (by simp [ivs, hl]), Nat.le_refl _⟩
theorem w73 : ∀ x ∈ ([7, 3] : List Int), -9223372036854775808 ≤ x ∧ x ≤ 9223372036854775807 := by decide
attribute [-go_sem] Instr.buildSlice
set_option maxHeartbeats 16000000 in
set_option maxRecDepth 100000 in
theorem wakes05_any (w : World) : Calls Try.prog 23 #[] w (Ret w (.bool true)) := by
  obtain ⟨E1, E2, d1, d2, hw, b1, b2, b3, b4⟩ := words05
  have o1 : E1.Ok := by rw [hw.1]; exact ew1_ok
  have o2 : E2.Ok := by rw [hw.2]; exact ew2_ok
  have g12 : goodE [E1, E2] = true := by rw [hw.1, hw.2]; exact ew_good
  have g21 : goodE [E2, E1] = false := by rw [hw.1, hw.2]; exact ew_bad
  have hok12 : ∀ x ∈ [E1, E2], x.Ok := by rw [hw.1, hw.2]; exact ew_ok
  have hPb : ∀ i : Nat, i < 74 → at8 (lfEnc [E1, E2]) i = at8 (lfB [ew1, ew2]) i := fun i h => by rw [hw.1, hw.2]; exact ew_at h
  have HW := Lib.hid hw
  clear hw
  have hbk := lf_back hok12 g12
  have hlP := lfEnc_len hok12
  have e12 := ens_two E1 E2
  have e21 := ens_two E2 E1
  have hs12 := fun W => run_slice2 (P := Try.prog) (t := 49) enZ Try.underlying49 (by rw [List.size_toArray, en0_ok.len]) (by omega) (by omega) E1.cells E2.cells o1.len o2.len W
  have hs21 := fun W => run_slice2 (P := Try.prog) (t := 49) enZ Try.underlying49 (by rw [List.size_toArray, en0_ok.len]) (by omega) (by omega) E2.cells E1.cells o2.len o1.len W
  have hr12 := hok12
  have len1 := o1.len
  have len2 := o2.len
  obtain ⟨cE, hcE⟩ : ∃ q, E1.cells = q := ⟨_, rfl⟩
  obtain ⟨cF, hcF⟩ : ∃ q, E2.cells = q := ⟨_, rfl⟩
  rw [hcE] at b3 e12 e21 len1
  rw [hcF] at b4 e12 e21 len2
  simp only [hcE, hcF] at hs12 hs21
  clear hcE hcF hr12
  obtain ⟨P, hP⟩ : ∃ q, lfEnc [E1, E2] = q := ⟨_, rfl⟩
  have hPr := rtEnc_len [7, 3]
  obtain ⟨R, hR⟩ : ∃ q, rtEnc [7, 3] = q := ⟨_, rfl⟩
  rw [hR] at hPr
  have hbkr := rt_back pw_good
  rw [hR] at hbkr
  have hRb : ∀ i : Nat, i < 4 → at8 R i = at8 (rtB [7, 3]) i := fun i h => by rw [← hR]; exact pw_at h
  rw [hP] at hbk hlP
  simp only [hP] at hPb
  have HH := Lib.hid (And.intro hP (And.intro hR (And.intro hPb hRb)))
  have HB := Lib.hid (And.intro hbk (And.intro hbkr (And.intro g12 g21)))
  clear hP hR hPb hRb hbk hbkr g12 g21
  go_enter Try.func23, Try.ntmps23
  go_upto_region 1 with (fail)
  refine wp_region_lit ?_
  refine wpList_built rfl 71 #[(0, .const (.int .u8 1))] rfl (cs := d1) (by simp only [List.map_toArray, List.map_cons, List.map_nil]; exact b1) ?_
  (try simp only [Act.put, List.setIfInBounds_toArray, List.set_cons_zero, List.set_cons_succ])
  refine wpList_built rfl 73 #[(0, .tmp 12), (1, .const (.int .i64 9)), (2, .const (.int .i64 2)), (3, .const (.int .i64 258))] rfl (cs := cE.toArray) (by simp only [List.map_toArray, List.map_cons, List.map_nil]; exact b3) ?_
  (try simp only [Act.put, List.setIfInBounds_toArray, List.set_cons_zero, List.set_cons_succ])
  refine wpList_built rfl 71 #[(0, .const (.int .u8 2))] rfl (cs := d2) (by simp only [List.map_toArray, List.map_cons, List.map_nil]; exact b2) ?_
  (try simp only [Act.put, List.setIfInBounds_toArray, List.set_cons_zero, List.set_cons_succ])
  refine wpList_built rfl 73 #[(0, .tmp 14), (1, .const (.int .i64 5)), (2, .const (.int .i64 1))] rfl (cs := cF.toArray) (by simp only [List.map_toArray, List.map_cons, List.map_nil]; exact b4) ?_
  (try simp only [Act.put, List.setIfInBounds_toArray, List.set_cons_zero, List.set_cons_succ])
  refine wpList_slice rfl 49 2 #[(0, .tmp 13), (1, .tmp 15)] rfl (by simp only [List.map_toArray, List.map_cons, List.map_nil]; exact hs12 w) ?_
  (try simp only [Act.put, List.setIfInBounds_toArray, List.set_cons_zero, List.set_cons_succ])
  clear b1 b2 b3 b4 hs12
  obtain ⟨W1, hW1⟩ : ∃ q, w.alloc (.cells (cE ++ cF).toArray 73) = q := ⟨_, rfl⟩
  have y1 : W1.heap[w.heap.size]? = some (.cells (cE ++ cF).toArray 73) := by rw [← hW1]; exact heap_alloc_new _ _
  have hB1 : Below w.heap.size w W1 := by rw [← hW1]; exact (Below.refl _ _).alloc (Nat.le_refl _) _
  rw [hW1]
  clear hW1
  have hat1 := two_at y1 e12.symm o1 o2
  have henc := lenc_any W1 hat1
  unfold bkv at henc
  rw [HH.out.1, HB.out.2.2.1, show erE true = 0 from rfl] at henc
  obtain ⟨cp, hcp⟩ : ∃ q, (bvs P).toArray = q := ⟨_, rfl⟩
  have hpi := bk_info hlP
  have hbz := blkZ
  have hps := blk_sizes zblk_len hlP
  have hp1 := all_oneCell_toArray (oneCell_bvs P)
  obtain ⟨zb, hzb⟩ : ∃ q, (bvs zblk).toArray = q := ⟨_, rfl⟩
  have hpiR := bk_info hPr
  have hpsR := blk_sizes zblk_len hPr
  have hp1R := all_oneCell_toArray (oneCell_bvs R)
  obtain ⟨cr, hcr⟩ : ∃ q, (bvs R).toArray = q := ⟨_, rfl⟩
  rw [hzb] at hbz hps hpsR
  rw [hcp] at hpi hps hp1 henc
  rw [hcr] at hpiR hpsR hp1R
  have HC := Lib.hid (And.intro hcp hcr)
  have HZ := Lib.hid hzb
  clear hzb hcp hcr
  have HA := Lib.hid (And.intro hat1 (And.intro hB1 y1))
  clear hat1 hB1 y1
  go_upto_region 2 with (fail)
  go_wp2_with fail
  refine Calls.mono henc ?_
  rintro e W2 ⟨rfl, hb2⟩
  clear henc
  obtain ⟨Y2, hY, y2, bY⟩ := newRow W2 zb cp 40
  have hb := hb2.trans (bY.mono hb2.size)
  have hat2 := HA.out.1.nxt hb
  have hB2 := bNext HA.out.2.1 hb
  have y12 := bBlk hb (Array.getElem?_eq_some_iff.1 HA.out.2.2).1 HA.out.2.2
  have hd := ldec_any hlP Y2
  unfold LDec bkv at hd
  rw [HB.out.1.1, HB.out.1.2, HC.out.1, show erE true = 0 from rfl] at hd
  have HA2 := Lib.hid (And.intro hat2 (And.intro hB2 y12))
  clear hb hb2 bY hat2 hB2 y12 HA
  go_upto_region 3 with (first
    | (refine wpList_new rfl hbz rfl ?_)
    | (refine wpList_store_row rfl 40 (.tmp 2) (.tmp 20) rfl _ cp rfl rfl _ zb (heap_alloc_new _ _) hpi hps hp1 ?_)
    | fail)
  try rw [hY]
  clear hY
  refine wp_region_lit ?_
  refine wpList_load_row rfl 40 (.tmp 2) rfl _ rfl _ cp (0, 0) _ y2 Try.underlying40 rfl hpi ?_
  (try simp only [Act.put, List.setIfInBounds_toArray, List.set_cons_zero, List.set_cons_succ])
  go_wp2_with fail
  refine Calls.mono hd ?_
  rintro e W3 ⟨A4, n4, c4, rfl, hat4, hb3⟩
  clear hd
  obtain rfl : n4 = 2 := hat4.len.symm
  have hi73 := ints2 7 3 W3
  obtain ⟨W4, hW4⟩ : ∃ q, W3.alloc (.cells #[.int .i64 7, .int .i64 3] 3) = q := ⟨_, rfl⟩
  have y4 : W4.heap[W3.heap.size]? = some (.cells (ivs [7, 3]).toArray 3) := by rw [← hW4]; exact heap_alloc_new _ _
  have hb4 : Below W3.heap.size W3 W4 := by rw [← hW4]; exact (Below.refl _ _).alloc (Nat.le_refl _) _
  rw [hW4] at hi73
  clear hW4
  have hroot := root_any W4 (lit_ints y4 rfl w73) (by decide)
  unfold bkv at hroot
  rw [HH.out.2.1, pw_good, HC.out.2, show erE true = 0 from rfl] at hroot
  have hb := hb3.trans (hb4.mono hb3.size)
  have hat14 := HA2.out.1.nxt hb
  have hB4 := bNext HA2.out.2.1 hb
  have y14 := bBlk hb (Array.getElem?_eq_some_iff.1 HA2.out.2.2).1 HA2.out.2.2
  have y24 := bBlk hb (Array.getElem?_eq_some_iff.1 y2).1 y2
  have hat44 := hat4.nxt hb4
  have HA4 := Lib.hid (And.intro hat14 (And.intro hB4 (And.intro y14 (And.intro y24 hat44))))
  clear hb hb3 hb4 hat14 hB4 y14 y24 hat44 hat4 y2 y4 HA2
  go_upto_region 4 with (fail)
  go_wp2_with fail
  refine Calls.mono hroot ?_
  rintro e W5 ⟨rfl, hb5⟩
  clear hroot hi73
  obtain ⟨Y5, hY, y5, bY⟩ := newRow W5 zb cr 40
  have hb := hb5.trans (bY.mono hb5.size)
  have hd := lleaves_any hPr Y5
  unfold LLvs bkv at hd
  rw [HB.out.2.1.1, HB.out.2.1.2, HC.out.2, show erE true = 0 from rfl] at hd
  obtain ⟨h1, h2, h3, h4, h5⟩ := HA4.out
  have HA5 := Lib.hid (And.intro (h1.nxt hb) (And.intro (bNext h2 hb) (And.intro (bBlk hb (Array.getElem?_eq_some_iff.1 h3).1 h3) (And.intro (bBlk hb (Array.getElem?_eq_some_iff.1 h4).1 h4) (h5.nxt hb)))))
  clear hb hb5 bY h1 h2 h3 h4 h5 HA4
  go_upto_region 5 with (first
    | (refine wpList_new rfl hbz rfl ?_)
    | (refine wpList_store_row rfl 40 (.tmp 6) (.tmp 30) rfl _ cr rfl rfl _ zb (heap_alloc_new _ _) hpiR hpsR hp1R ?_)
    | fail)
  try rw [hY]
  clear hY
  refine wp_region_lit ?_
  refine wpList_load_row rfl 40 (.tmp 6) rfl _ rfl _ cr (0, 0) _ y5 Try.underlying40 rfl hpiR ?_
  (try simp only [Act.put, List.setIfInBounds_toArray, List.set_cons_zero, List.set_cons_succ])
  go_wp2_with fail
  refine Calls.mono hd ?_
  rintro e Y ⟨A8, n8, c8, rfl, hat8, hb6⟩
  clear hd
  obtain rfl : n8 = 2 := hat8.len.symm
  obtain ⟨h1, h2, h3, h4, h5⟩ := HA5.out
  have hat1 := h1.nxt hb6
  have hB6 := bNext h2 hb6
  have y1 := bBlk hb6 (Array.getElem?_eq_some_iff.1 h3).1 h3
  have y2 := bBlk hb6 (Array.getElem?_eq_some_iff.1 h4).1 h4
  have hat4 := h5.nxt hb6
  have y6 := bBlk hb6 (Array.getElem?_eq_some_iff.1 y5).1 y5
  clear h1 h2 h3 h4 h5 hb6 y5 HA5
  have hr1 : Y.rangeAt w.heap.size 0 cE := fun j v hj => by
    rw [Nat.zero_add]
    refine blk_cell y1 ?_
    rw [List.getElem?_toArray, List.getElem?_append_left (List.getElem?_eq_some_iff.1 hj).1]
    exact hj
  have hr2 : Y.rangeAt w.heap.size 35 cF := fun j v hj => by
    refine blk_cell y1 ?_
    rw [List.getElem?_toArray, List.getElem?_append_right (by omega), len1, Nat.add_sub_cancel_left]
    exact hj
  have i1 : (Try.prog.info? 73).map (·.size) = some cE.length := by rw [len1]; exact en_size
  have i2 : (Try.prog.info? 73).map (·.size) = some cF.length := by rw [len2]; exact en_size
  have l1 : w.heap.size < Y.heap.size := (Array.getElem?_eq_some_iff.1 y1).1
  have HY := Lib.hid (And.intro hat1 (And.intro hB6 (And.intro y2 (And.intro y6 (And.intro hat4 hat8)))))
  clear hat1 hB6 y2 y6 hat4 hat8 y1
  have henc2 : ∀ W g, W.heap[g]? = some (.cells (cF ++ cE).toArray 73) → Calls Try.prog 24 #[.slice (some ⟨g, 0, none⟩) 2 2] W (Ret W (.tuple #[.agg zb, .int .i64 11])) := fun W g h => by
    have := lenc_any W (two_at h e21.symm o2 o1)
    unfold bkv lfEnc at this
    rw [HB.out.2.2.2, if_neg Bool.false_ne_true, HZ.out] at this
    exact this
  go_upto_region 6 with (fail)
  go_cut [11] from 37 to 47 (fun s11 wx => s11 = .int .i64 11 ∧ Below Y.heap.size Y wx)
  case first =>
    let S : World → Prop := fun w' => Below Y.heap.size Y w'
    have hS0 : S Y.drew := (Below.refl _ _).drew
    have r1 : ∀ w', S w' → w'.rangeAt w.heap.size 0 cE := fun w' h => bRange h l1 hr1
    have r2 : ∀ w', S w' → w'.rangeAt w.heap.size 35 cF := fun w' h => bRange h l1 hr2
    clear hr1 hr2
    refine wp_region_held (S := S) (by kernel_rfl) ?_
    change wpAnyH _ _ _ _ S _ _ _ Y.drew
    refine wpAnyH_take (i := 0) (oi := ?oi_1) (v := ?v_1) ?ho_1 ?h1_1 ?h2_1 ?h3_1 ?hq_1 (Or.inl ⟨?hw_1, ?hy_1⟩) ?hs_1 ?rest_1; (case h2_1 => kernel_rfl); (case h3_1 => kernel_rfl); (case ho_1 => (simp only [List.getElem?_toArray, List.getElem?_cons_zero, List.getElem?_cons_succ]; rfl)); (case h1_1 => kernel_rfl); (case hq_1 => exact fun _ _ _ h => h); (case hw_1 => rfl); (case hy_1 => (intro w' hSw; (try simp only [S] at hSw); go_simp; (try with_reducible rfl))); (case hs_1 => assumption); (try simp only [Act.put, List.setIfInBounds_toArray, List.set_cons_zero, List.set_cons_succ])
    refine wpAnyH_take (i := 1) (oi := ?oi_2) (v := ?v_2) ?ho_2 ?h1_2 ?h2_2 ?h3_2 ?hq_2 (Or.inl ⟨?hw_2, ?hy_2⟩) ?hs_2 ?rest_2; (case h2_2 => kernel_rfl); (case h3_2 => kernel_rfl); (case ho_2 => (simp only [List.getElem?_toArray, List.getElem?_cons_zero, List.getElem?_cons_succ]; rfl)); (case h1_2 => kernel_rfl); (case hq_2 => exact fun _ _ _ h => h); (case hw_2 => rfl); (case hy_2 => (intro w' hSw; (try simp only [S] at hSw); go_simp; (try with_reducible rfl))); (case hs_2 => assumption); (try simp only [Act.put, List.setIfInBounds_toArray, List.set_cons_zero, List.set_cons_succ])
    refine wpAnyH_take (i := 2) (oi := ?oi_17) (v := ?v_17) ?ho_17 ?h1_17 ?h2_17 ?h3_17 ?hq_17 (Or.inl ⟨?hw_17, ?hy_17⟩) ?hs_17 ?rest_17; (case h2_17 => kernel_rfl); (case h3_17 => kernel_rfl); (case ho_17 => (simp only [List.getElem?_toArray, List.getElem?_cons_zero, List.getElem?_cons_succ]; rfl)); (case h1_17 => kernel_rfl); (case hq_17 => exact fun _ _ _ h => h); (case hw_17 => rfl); (case hy_17 => (intro w' hSw; refine exec_load_row (x := .tmp 39) ?_ ?_ (r2 w' hSw) Try.underlying73 ?_ i2 <;> rfl)); (case hs_17 => assumption); (try simp only [Act.put, List.setIfInBounds_toArray, List.set_cons_zero, List.set_cons_succ])
    refine wpAnyH_take (i := 3) (oi := ?oi_3) (v := ?v_3) ?ho_3 ?h1_3 ?h2_3 ?h3_3 ?hq_3 (Or.inl ⟨?hw_3, ?hy_3⟩) ?hs_3 ?rest_3; (case h2_3 => kernel_rfl); (case h3_3 => kernel_rfl); (case ho_3 => (simp only [List.getElem?_toArray, List.getElem?_cons_zero, List.getElem?_cons_succ]; rfl)); (case h1_3 => kernel_rfl); (case hq_3 => exact fun _ _ _ h => h); (case hw_3 => rfl); (case hy_3 => (intro w' hSw; (try simp only [S] at hSw); go_simp; (try with_reducible rfl))); (case hs_3 => assumption); (try simp only [Act.put, List.setIfInBounds_toArray, List.set_cons_zero, List.set_cons_succ])
    refine wpAnyH_take (i := 4) (oi := ?oi_4) (v := ?v_4) ?ho_4 ?h1_4 ?h2_4 ?h3_4 ?hq_4 (Or.inl ⟨?hw_4, ?hy_4⟩) ?hs_4 ?rest_4; (case h2_4 => kernel_rfl); (case h3_4 => kernel_rfl); (case ho_4 => (simp only [List.getElem?_toArray, List.getElem?_cons_zero, List.getElem?_cons_succ]; rfl)); (case h1_4 => kernel_rfl); (case hq_4 => exact fun _ _ _ h => h); (case hw_4 => rfl); (case hy_4 => (intro w' hSw; (try simp only [S] at hSw); go_simp; (try with_reducible rfl))); (case hs_4 => assumption); (try simp only [Act.put, List.setIfInBounds_toArray, List.set_cons_zero, List.set_cons_succ])
    refine wpAnyH_take (i := 5) (oi := ?oi_18) (v := ?v_18) ?ho_18 ?h1_18 ?h2_18 ?h3_18 ?hq_18 (Or.inl ⟨?hw_18, ?hy_18⟩) ?hs_18 ?rest_18; (case h2_18 => kernel_rfl); (case h3_18 => kernel_rfl); (case ho_18 => (simp only [List.getElem?_toArray, List.getElem?_cons_zero, List.getElem?_cons_succ]; rfl)); (case h1_18 => kernel_rfl); (case hq_18 => exact fun _ _ _ h => h); (case hw_18 => rfl); (case hy_18 => (intro w' hSw; refine exec_load_row (x := .tmp 42) ?_ ?_ (r1 w' hSw) Try.underlying73 ?_ i1 <;> rfl)); (case hs_18 => assumption); (try simp only [Act.put, List.setIfInBounds_toArray, List.set_cons_zero, List.set_cons_succ])
    have hbs := hs21 Y.drew
    have hbs2 := hs21 (Y.drew.alloc (.cells zb 40))
    clear hs21
    have hzi : (Try.prog.info? 40).map (·.size) = some zb.size := by rw [← HZ.out]; exact bk_info zblk_len
    have hz1 : (zb.all fun x => x.oneCell') = true := by rw [← HZ.out]; exact all_oneCell_toArray (oneCell_bvs _)
    refine wpAnyH_ready (rs := [6, 11]) (by kernel_rfl) (by simp) (AllReadyH.cons (o := ?oo6_19) ?hoo6_19 (fun K hK => ?step6) (AllReadyH.cons (o := ?oo11_19) ?hoo11_19 (fun K hK => ?step11) AllReadyH.nil)); (case hoo6_19 => (simp only [List.getElem?_toArray, List.getElem?_cons_zero, List.getElem?_cons_succ]; rfl)); (case hoo11_19 => (simp only [List.getElem?_toArray, List.getElem?_cons_zero, List.getElem?_cons_succ]; rfl))
    case step6 =>
      have hS1 : S (Y.alloc (.cells (cF ++ cE).toArray 73)).drew := (Below.refl _ Y).drew.alloc (Nat.le_refl _) _
      have b6 : (Y.alloc (.cells (cF ++ cE).toArray 73)).drew.heap[Y.heap.size]? = some (.cells (cF ++ cE).toArray 73) := heap_alloc_new Y.drew _
      go_simp
      refine hK.out _ _ hS1 (fun _ => ?_)
      clear hK K hbs hbs2
      (try simp only [Act.put, List.setIfInBounds_toArray, List.set_cons_zero, List.set_cons_succ])
      obtain ⟨U, hU⟩ : ∃ q, (Y.alloc (.cells (cF ++ cE).toArray 73)).drew = q := ⟨_, rfl⟩
      rw [hU] at b6 hS1 ⊢
      clear hU
      refine wpAnyH_ready (rs := [7, 11]) (by kernel_rfl) (by simp) (AllReadyH.cons (o := ?oo7_20) ?hoo7_20 (fun K hK => ?stepX7) (AllReadyH.cons (o := ?oo11_20) ?hoo11_20 (fun K hK => ?stepX11) AllReadyH.nil)); (case hoo7_20 => (simp only [List.getElem?_toArray, List.getElem?_cons_zero, List.getElem?_cons_succ]; rfl)); (case hoo11_20 => (simp only [List.getElem?_toArray, List.getElem?_cons_zero, List.getElem?_cons_succ]; rfl))
      case stepX7 =>
        go_simp
        refine Calls.mono (henc2 U _ b6) ?_
        rintro e w7 ⟨rfl, hb7⟩
        have hzU := (show Below Y.heap.size Y U from hS1).size
        have hS2 : S w7 := (show Below Y.heap.size Y U from hS1).trans (hb7.mono hzU)
        refine hK.out _ _ hS2 (fun _ => ?_)
        clear hK K
        (try simp only [Act.put, List.setIfInBounds_toArray, List.set_cons_zero, List.set_cons_succ])
        refine wpAnyH_take (i := 8) (oi := ?oi_5) (v := ?v_5) ?ho_5 ?h1_5 ?h2_5 ?h3_5 ?hq_5 (Or.inl ⟨?hw_5, ?hy_5⟩) ?hs_5 ?rest_5; (case h2_5 => kernel_rfl); (case h3_5 => kernel_rfl); (case ho_5 => (simp only [List.getElem?_toArray, List.getElem?_cons_zero, List.getElem?_cons_succ]; rfl)); (case h1_5 => kernel_rfl); (case hq_5 => exact fun _ _ _ h => h); (case hw_5 => rfl); (case hy_5 => (intro w' hSw; (try simp only [S] at hSw); go_simp; (try with_reducible rfl))); (case hs_5 => assumption); (try simp only [Act.put, List.setIfInBounds_toArray, List.set_cons_zero, List.set_cons_succ])
        refine wpAnyH_take (i := 9) (oi := ?oi_6) (v := ?v_6) ?ho_6 ?h1_6 ?h2_6 ?h3_6 ?hq_6 (Or.inl ⟨?hw_6, ?hy_6⟩) ?hs_6 ?rest_6; (case h2_6 => kernel_rfl); (case h3_6 => kernel_rfl); (case ho_6 => (simp only [List.getElem?_toArray, List.getElem?_cons_zero, List.getElem?_cons_succ]; rfl)); (case h1_6 => kernel_rfl); (case hq_6 => exact fun _ _ _ h => h); (case hw_6 => rfl); (case hy_6 => (intro w' hSw; (try simp only [S] at hSw); go_simp; (try with_reducible rfl))); (case hs_6 => assumption); (try simp only [Act.put, List.setIfInBounds_toArray, List.set_cons_zero, List.set_cons_succ])
        refine wpAnyH_take (i := 10) (oi := ?oi_7) (v := ?v_7) ?ho_7 ?h1_7 ?h2_7 ?h3_7 ?hq_7 (Or.inl ⟨?hw_7, ?hy_7⟩) ?hs_7 ?rest_7; (case h2_7 => kernel_rfl); (case h3_7 => kernel_rfl); (case ho_7 => (simp only [List.getElem?_toArray, List.getElem?_cons_zero, List.getElem?_cons_succ]; rfl)); (case h1_7 => kernel_rfl); (case hq_7 => exact fun _ _ _ h => h); (case hw_7 => rfl); (case hy_7 => (intro w' hSw; (try simp only [S] at hSw); go_simp; (try with_reducible rfl))); (case hs_7 => assumption); (try simp only [Act.put, List.setIfInBounds_toArray, List.set_cons_zero, List.set_cons_succ])
        have hz7 := (show Below Y.heap.size Y w7 from hS2).size
        have hS3 : S (w7.alloc (.cells zb 40)) := (show Below Y.heap.size Y w7 from hS2).alloc hz7 _
        refine wpAnyH_ready (rs := [11]) (by kernel_rfl) (by simp) (AllReadyH.cons (o := ?oo11_21) ?hoo11_21 (fun K hK => ?steponly21) AllReadyH.nil); (case hoo11_21 => (simp only [List.getElem?_toArray, List.getElem?_cons_zero, List.getElem?_cons_succ]; rfl))
        refine step_new rfl hbz rfl ?_
        refine hK.out _ _ hS3 (fun _ => ?_)
        clear hK K
        (try simp only [Act.put, List.setIfInBounds_toArray, List.set_cons_zero, List.set_cons_succ])
        refine wpAnyH_ready (rs := [12]) (by kernel_rfl) (by simp) (AllReadyH.cons (o := ?oo12_22) ?hoo12_22 (fun K hK => ?steponly22) AllReadyH.nil); (case hoo12_22 => (simp only [List.getElem?_toArray, List.getElem?_cons_zero, List.getElem?_cons_succ]; rfl))
        refine step_row rfl 40 (.tmp 10) (.tmp 46) rfl w7.heap.size zb rfl rfl _ zb (heap_alloc_new _ _) hzi rfl hz1 ?_
        have hS4 : S ((w7.alloc (.cells zb 40)).setRow w7.heap.size zb) := bSetRow hS3 hz7 _
        refine hK.out _ _ hS4 (fun _ => ?_)
        clear hK K
        (try simp only [Act.put, List.setIfInBounds_toArray, List.set_cons_zero, List.set_cons_succ])
        refine wpAnyH_take (i := 13) (oi := ?oi_8) (v := ?v_8) ?ho_8 ?h1_8 ?h2_8 ?h3_8 ?hq_8 (Or.inl ⟨?hw_8, ?hy_8⟩) ?hs_8 ?rest_8; (case h2_8 => kernel_rfl); (case h3_8 => kernel_rfl); (case ho_8 => (simp only [List.getElem?_toArray, List.getElem?_cons_zero, List.getElem?_cons_succ]; rfl)); (case h1_8 => kernel_rfl); (case hq_8 => exact fun _ _ _ h => h); (case hw_8 => rfl); (case hy_8 => (intro w' hSw; (try simp only [S] at hSw); go_simp; (try with_reducible rfl))); (case hs_8 => assumption); (try simp only [Act.put, List.setIfInBounds_toArray, List.set_cons_zero, List.set_cons_succ])
        refine wpAnyH_done (by kernel_rfl) ?_ _
        have HE := Lib.hid (show Below Y.heap.size Y _ from hS4)
        clear hS0 hS1 hS2 hS3 hS4 r1 r2
        go_wp2_with fail
        go_meet
        exact ⟨rfl, HE.out⟩
      case stepX11 =>
        have hzU := (show Below Y.heap.size Y U from hS1).size
        have hbA : Below U.heap.size U (U.alloc (.cells zb 40)) := (Below.refl _ _).alloc (Nat.le_refl _) _
        have hS2 : S (U.alloc (.cells zb 40)) := (show Below Y.heap.size Y U from hS1).trans (hbA.mono hzU)
        have c6 := bBlk hbA (Array.getElem?_eq_some_iff.1 b6).1 b6
        have a6 := heap_alloc_new U (.cells zb 40)
        refine step_new rfl hbz rfl ?_
        refine hK.out _ _ hS2 (fun _ => ?_)
        clear hK K
        (try simp only [Act.put, List.setIfInBounds_toArray, List.set_cons_zero, List.set_cons_succ])
        obtain ⟨UA, hUA⟩ : ∃ q, U.alloc (.cells zb 40) = q := ⟨_, rfl⟩
        rw [hUA] at hS2 c6 a6 hbA ⊢
        clear hUA
        refine wpAnyH_ready (rs := [7]) (by kernel_rfl) (by simp) (AllReadyH.cons (o := ?oo7_23) ?hoo7_23 (fun K hK => ?steponly23) AllReadyH.nil); (case hoo7_23 => (simp only [List.getElem?_toArray, List.getElem?_cons_zero, List.getElem?_cons_succ]; rfl))
        go_simp
        refine Calls.mono (henc2 UA _ c6) ?_
        rintro e w7 ⟨rfl, hb7⟩
        have hzUA := (show Below Y.heap.size Y UA from hS2).size
        have hS3 : S w7 := (show Below Y.heap.size Y UA from hS2).trans (hb7.mono hzUA)
        have a7 := bBlk hb7 (Array.getElem?_eq_some_iff.1 a6).1 a6
        refine hK.out _ _ hS3 (fun _ => ?_)
        clear hK K
        (try simp only [Act.put, List.setIfInBounds_toArray, List.set_cons_zero, List.set_cons_succ])
        refine wpAnyH_take (i := 8) (oi := ?oi_9) (v := ?v_9) ?ho_9 ?h1_9 ?h2_9 ?h3_9 ?hq_9 (Or.inl ⟨?hw_9, ?hy_9⟩) ?hs_9 ?rest_9; (case h2_9 => kernel_rfl); (case h3_9 => kernel_rfl); (case ho_9 => (simp only [List.getElem?_toArray, List.getElem?_cons_zero, List.getElem?_cons_succ]; rfl)); (case h1_9 => kernel_rfl); (case hq_9 => exact fun _ _ _ h => h); (case hw_9 => rfl); (case hy_9 => (intro w' hSw; (try simp only [S] at hSw); go_simp; (try with_reducible rfl))); (case hs_9 => assumption); (try simp only [Act.put, List.setIfInBounds_toArray, List.set_cons_zero, List.set_cons_succ])
        refine wpAnyH_take (i := 9) (oi := ?oi_10) (v := ?v_10) ?ho_10 ?h1_10 ?h2_10 ?h3_10 ?hq_10 (Or.inl ⟨?hw_10, ?hy_10⟩) ?hs_10 ?rest_10; (case h2_10 => kernel_rfl); (case h3_10 => kernel_rfl); (case ho_10 => (simp only [List.getElem?_toArray, List.getElem?_cons_zero, List.getElem?_cons_succ]; rfl)); (case h1_10 => kernel_rfl); (case hq_10 => exact fun _ _ _ h => h); (case hw_10 => rfl); (case hy_10 => (intro w' hSw; (try simp only [S] at hSw); go_simp; (try with_reducible rfl))); (case hs_10 => assumption); (try simp only [Act.put, List.setIfInBounds_toArray, List.set_cons_zero, List.set_cons_succ])
        refine wpAnyH_take (i := 10) (oi := ?oi_11) (v := ?v_11) ?ho_11 ?h1_11 ?h2_11 ?h3_11 ?hq_11 (Or.inl ⟨?hw_11, ?hy_11⟩) ?hs_11 ?rest_11; (case h2_11 => kernel_rfl); (case h3_11 => kernel_rfl); (case ho_11 => (simp only [List.getElem?_toArray, List.getElem?_cons_zero, List.getElem?_cons_succ]; rfl)); (case h1_11 => kernel_rfl); (case hq_11 => exact fun _ _ _ h => h); (case hw_11 => rfl); (case hy_11 => (intro w' hSw; (try simp only [S] at hSw); go_simp; (try with_reducible rfl))); (case hs_11 => assumption); (try simp only [Act.put, List.setIfInBounds_toArray, List.set_cons_zero, List.set_cons_succ])
        refine wpAnyH_ready (rs := [12]) (by kernel_rfl) (by simp) (AllReadyH.cons (o := ?oo12_24) ?hoo12_24 (fun K hK => ?steponly24) AllReadyH.nil); (case hoo12_24 => (simp only [List.getElem?_toArray, List.getElem?_cons_zero, List.getElem?_cons_succ]; rfl))
        refine step_row rfl 40 (.tmp 10) (.tmp 46) rfl U.heap.size zb rfl rfl _ zb a7 hzi rfl hz1 ?_
        have hS4 : S (w7.setRow U.heap.size zb) := bSetRow hS3 hzU _
        refine hK.out _ _ hS4 (fun _ => ?_)
        clear hK K
        (try simp only [Act.put, List.setIfInBounds_toArray, List.set_cons_zero, List.set_cons_succ])
        refine wpAnyH_take (i := 13) (oi := ?oi_12) (v := ?v_12) ?ho_12 ?h1_12 ?h2_12 ?h3_12 ?hq_12 (Or.inl ⟨?hw_12, ?hy_12⟩) ?hs_12 ?rest_12; (case h2_12 => kernel_rfl); (case h3_12 => kernel_rfl); (case ho_12 => (simp only [List.getElem?_toArray, List.getElem?_cons_zero, List.getElem?_cons_succ]; rfl)); (case h1_12 => kernel_rfl); (case hq_12 => exact fun _ _ _ h => h); (case hw_12 => rfl); (case hy_12 => (intro w' hSw; (try simp only [S] at hSw); go_simp; (try with_reducible rfl))); (case hs_12 => assumption); (try simp only [Act.put, List.setIfInBounds_toArray, List.set_cons_zero, List.set_cons_succ])
        refine wpAnyH_done (by kernel_rfl) ?_ _
        have HE := Lib.hid (show Below Y.heap.size Y _ from hS4)
        clear hS0 hS1 hS2 hS3 hS4 r1 r2
        go_wp2_with fail
        go_meet
        exact ⟨rfl, HE.out⟩
    case step11 =>
      have hS1 : S (Y.drew.alloc (.cells zb 40)) := (Below.refl _ Y).drew.alloc (Nat.le_refl _) _
      have a6 : (Y.drew.alloc (.cells zb 40)).heap[Y.heap.size]? = some (.cells zb 40) := heap_alloc_new Y.drew _
      refine step_new rfl hbz rfl ?_
      refine hK.out _ _ hS1 (fun _ => ?_)
      clear hK K hbs
      (try simp only [Act.put, List.setIfInBounds_toArray, List.set_cons_zero, List.set_cons_succ])
      obtain ⟨U, hU⟩ : ∃ q, Y.drew.alloc (.cells zb 40) = q := ⟨_, rfl⟩
      rw [hU] at hbs2 hS1 a6 ⊢
      clear hU
      refine wpAnyH_ready (rs := [6]) (by kernel_rfl) (by simp) (AllReadyH.cons (o := ?oo6_25) ?hoo6_25 (fun K hK => ?steponly25) AllReadyH.nil); (case hoo6_25 => (simp only [List.getElem?_toArray, List.getElem?_cons_zero, List.getElem?_cons_succ]; rfl))
      have hbA : Below U.heap.size U (U.alloc (.cells (cF ++ cE).toArray 73)) := (Below.refl _ _).alloc (Nat.le_refl _) _
      have hzU := (show Below Y.heap.size Y U from hS1).size
      have hS2 : S (U.alloc (.cells (cF ++ cE).toArray 73)) := (show Below Y.heap.size Y U from hS1).trans (hbA.mono hzU)
      have c6 := heap_alloc_new U (.cells (cF ++ cE).toArray 73)
      have a7 := bBlk hbA (Array.getElem?_eq_some_iff.1 a6).1 a6
      go_simp
      refine hK.out _ _ hS2 (fun _ => ?_)
      clear hK K hbs2
      (try simp only [Act.put, List.setIfInBounds_toArray, List.set_cons_zero, List.set_cons_succ])
      obtain ⟨UA, hUA⟩ : ∃ q, U.alloc (.cells (cF ++ cE).toArray 73) = q := ⟨_, rfl⟩
      rw [hUA] at hS2 c6 a7 hbA ⊢
      clear hUA
      refine wpAnyH_ready (rs := [7]) (by kernel_rfl) (by simp) (AllReadyH.cons (o := ?oo7_26) ?hoo7_26 (fun K hK => ?steponly26) AllReadyH.nil); (case hoo7_26 => (simp only [List.getElem?_toArray, List.getElem?_cons_zero, List.getElem?_cons_succ]; rfl))
      go_simp
      refine Calls.mono (henc2 UA _ c6) ?_
      rintro e w7 ⟨rfl, hb7⟩
      have hzUA := (show Below Y.heap.size Y UA from hS2).size
      have hS3 : S w7 := (show Below Y.heap.size Y UA from hS2).trans (hb7.mono hzUA)
      have a8 := bBlk hb7 (Array.getElem?_eq_some_iff.1 a7).1 a7
      refine hK.out _ _ hS3 (fun _ => ?_)
      clear hK K
      (try simp only [Act.put, List.setIfInBounds_toArray, List.set_cons_zero, List.set_cons_succ])
      refine wpAnyH_take (i := 8) (oi := ?oi_13) (v := ?v_13) ?ho_13 ?h1_13 ?h2_13 ?h3_13 ?hq_13 (Or.inl ⟨?hw_13, ?hy_13⟩) ?hs_13 ?rest_13; (case h2_13 => kernel_rfl); (case h3_13 => kernel_rfl); (case ho_13 => (simp only [List.getElem?_toArray, List.getElem?_cons_zero, List.getElem?_cons_succ]; rfl)); (case h1_13 => kernel_rfl); (case hq_13 => exact fun _ _ _ h => h); (case hw_13 => rfl); (case hy_13 => (intro w' hSw; (try simp only [S] at hSw); go_simp; (try with_reducible rfl))); (case hs_13 => assumption); (try simp only [Act.put, List.setIfInBounds_toArray, List.set_cons_zero, List.set_cons_succ])
      refine wpAnyH_take (i := 9) (oi := ?oi_14) (v := ?v_14) ?ho_14 ?h1_14 ?h2_14 ?h3_14 ?hq_14 (Or.inl ⟨?hw_14, ?hy_14⟩) ?hs_14 ?rest_14; (case h2_14 => kernel_rfl); (case h3_14 => kernel_rfl); (case ho_14 => (simp only [List.getElem?_toArray, List.getElem?_cons_zero, List.getElem?_cons_succ]; rfl)); (case h1_14 => kernel_rfl); (case hq_14 => exact fun _ _ _ h => h); (case hw_14 => rfl); (case hy_14 => (intro w' hSw; (try simp only [S] at hSw); go_simp; (try with_reducible rfl))); (case hs_14 => assumption); (try simp only [Act.put, List.setIfInBounds_toArray, List.set_cons_zero, List.set_cons_succ])
      refine wpAnyH_take (i := 10) (oi := ?oi_15) (v := ?v_15) ?ho_15 ?h1_15 ?h2_15 ?h3_15 ?hq_15 (Or.inl ⟨?hw_15, ?hy_15⟩) ?hs_15 ?rest_15; (case h2_15 => kernel_rfl); (case h3_15 => kernel_rfl); (case ho_15 => (simp only [List.getElem?_toArray, List.getElem?_cons_zero, List.getElem?_cons_succ]; rfl)); (case h1_15 => kernel_rfl); (case hq_15 => exact fun _ _ _ h => h); (case hw_15 => rfl); (case hy_15 => (intro w' hSw; (try simp only [S] at hSw); go_simp; (try with_reducible rfl))); (case hs_15 => assumption); (try simp only [Act.put, List.setIfInBounds_toArray, List.set_cons_zero, List.set_cons_succ])
      refine wpAnyH_ready (rs := [12]) (by kernel_rfl) (by simp) (AllReadyH.cons (o := ?oo12_27) ?hoo12_27 (fun K hK => ?steponly27) AllReadyH.nil); (case hoo12_27 => (simp only [List.getElem?_toArray, List.getElem?_cons_zero, List.getElem?_cons_succ]; rfl))
      refine step_row rfl 40 (.tmp 10) (.tmp 46) rfl Y.heap.size zb rfl rfl _ zb a8 hzi rfl hz1 ?_
      have hS4 : S (w7.setRow Y.heap.size zb) := bSetRow hS3 (Nat.le_refl _) _
      refine hK.out _ _ hS4 (fun _ => ?_)
      clear hK K
      (try simp only [Act.put, List.setIfInBounds_toArray, List.set_cons_zero, List.set_cons_succ])
      refine wpAnyH_take (i := 13) (oi := ?oi_16) (v := ?v_16) ?ho_16 ?h1_16 ?h2_16 ?h3_16 ?hq_16 (Or.inl ⟨?hw_16, ?hy_16⟩) ?hs_16 ?rest_16; (case h2_16 => kernel_rfl); (case h3_16 => kernel_rfl); (case ho_16 => (simp only [List.getElem?_toArray, List.getElem?_cons_zero, List.getElem?_cons_succ]; rfl)); (case h1_16 => kernel_rfl); (case hq_16 => exact fun _ _ _ h => h); (case hw_16 => rfl); (case hy_16 => (intro w' hSw; (try simp only [S] at hSw); go_simp; (try with_reducible rfl))); (case hs_16 => assumption); (try simp only [Act.put, List.setIfInBounds_toArray, List.set_cons_zero, List.set_cons_succ])
      refine wpAnyH_done (by kernel_rfl) ?_ _
      have HE := Lib.hid (show Below Y.heap.size Y _ from hS4)
      clear hS0 hS1 hS2 hS3 hS4 r1 r2
      go_wp2_with fail
      go_meet
      exact ⟨rfl, HE.out⟩
  case rest =>
    obtain ⟨rfl, hbX⟩ := hcut
    rename World => X
    obtain ⟨h1, h2, h3, h4, h5, h6⟩ := HY.out
    have hat1 := h1.nxt hbX
    have hB := bNext h2 hbX
    have y2 := bBlk hbX (Array.getElem?_eq_some_iff.1 h3).1 h3
    have y6 := bBlk hbX (Array.getElem?_eq_some_iff.1 h4).1 h4
    have hat4 := h5.nxt hbX
    have hat8 := h6.nxt hbX
    have rp : X.rangeAt W2.heap.size 0 (bvs P) := range_blk (by rw [HC.out.1]; exact y2)
    have rr : X.rangeAt W5.heap.size 0 (bvs R) := range_blk (by rw [HC.out.2]; exact y6)
    have hcp : ∀ i : Nat, i < 74 → X.cell? ⟨W2.heap.size, i, none⟩ = some (.int .u8 ((at8 (lfB [ew1, ew2]) i).toNat : Int)) := fun i hi => by
      have := rp i (.int .u8 ((at8 P i).toNat : Int)) (by simp [bvs, bv, at8, List.getElem?_eq_getElem (show i < P.length by omega)])
      rw [HH.out.2.2.1 i hi, Nat.zero_add] at this
      exact this
    have hcr : ∀ i : Nat, i < 4 → X.cell? ⟨W5.heap.size, i, none⟩ = some (.int .u8 ((at8 (rtB [7, 3]) i).toNat : Int)) := fun i hi => by
      have := rr i (.int .u8 ((at8 R i).toNat : Int)) (by simp [bvs, bv, at8, List.getElem?_eq_getElem (show i < R.length by omega)])
      rw [HH.out.2.2.2 i hi, Nat.zero_add] at this
      exact this
    obtain ⟨t0, t1, t2, t3, t4, t5, t6⟩ := ew_bytes
    have k0 := u8c (hcp 0 (by omega)) (z := 76) (by rw [t0]; rfl)
    have k1 := u8c (hcp 1 (by omega)) (z := 2) (by rw [t1]; rfl)
    have k2 := u8c (hcp 2 (by omega)) (z := 1) (by rw [t2]; rfl)
    have k34 := u8c (hcp 34 (by omega)) (z := 9) (by rw [t3]; rfl)
    have k35 := u8c (hcp 35 (by omega)) (z := 2) (by rw [t4]; rfl)
    have k36 := u8c (hcp 36 (by omega)) (z := 1) (by rw [t5]; rfl)
    have k37 := u8c (hcp 37 (by omega)) (z := 2) (by rw [t6]; rfl)
    have lP := (Array.getElem?_eq_some_iff.1 y2).1
    have lR := (Array.getElem?_eq_some_iff.1 y6).1
    have j0 := u8c (hcr 0 (by omega)) (z := 82) (by rw [pw_bytes.1]; rfl)
    have j2 := u8c (hcr 2 (by omega)) (z := 7) (by rw [pw_bytes.2]; rfl)
    have hke := keepe_any X hat4 hat1 (Nat.le_refl _) (Nat.le_refl _) (by omega)
    rw [decide_eq_true rfl] at hke
    have HF := Lib.hid (And.intro hat1 (And.intro hB hat8))
    have szP : cp.size = 128 := by rw [← HC.out.1, List.size_toArray, bvs_len, hlP]
    have szR : cr.size = 128 := by rw [← HC.out.2, List.size_toArray, bvs_len, hPr]
    clear h1 h2 h3 h4 h5 h6 hat1 hB y2 y6 hat4 hat8 rp rr hcp hcr t0 t1 t2 t3 t4 t5 t6 hbX HY hs21 hr1 hr2
    go_upto_region 7 with (fail)
    simp only [List.append_eq, List.cons_append, List.nil_append]
    go_wp2_with fail
    refine Calls.mono hke ?_
    rintro e X2 ⟨rfl, hb2⟩
    clear hke
    have hi73 := ints2 7 3 X2
    obtain ⟨X3, hX3⟩ : ∃ q, X2.alloc (.cells #[.int .i64 7, .int .i64 3] 3) = q := ⟨_, rfl⟩
    have y3 : X3.heap[X2.heap.size]? = some (.cells (ivs [7, 3]).toArray 3) := by rw [← hX3]; exact heap_alloc_new _ _
    have hb3 : Below X2.heap.size X2 X3 := by rw [← hX3]; exact (Below.refl _ _).alloc (Nat.le_refl _) _
    rw [hX3] at hi73
    clear hX3
    have hb23 := hb2.trans (hb3.mono hb2.size)
    have j0' := (hb2.cell (p := ⟨W5.heap.size, 0, none⟩) lR).trans j0
    have j2' := (hb2.cell (p := ⟨W5.heap.size, 2, none⟩) lR).trans j2
    have lR2 : W5.heap.size < X2.heap.size := Nat.lt_of_lt_of_le lR hb2.size
    have hki := keepi_any X3 (HF.out.2.2.nxt hb23) (lit_ints y3 rfl w73) (Nat.le_refl _) (Nat.le_refl _) (by omega)
    rw [decide_eq_true rfl] at hki
    have HG := Lib.hid (And.intro (HF.out.1.nxt hb23) (bNext HF.out.2.1 hb23))
    clear hb2 hb3 hb23 y3 HF j0 j2 k0 k1 k2 k34 k35 k36 k37 lR lP
    go_wp2_with fail
    refine Calls.mono hki ?_
    rintro e X4 ⟨rfl, hb4⟩
    clear hki hi73
    have hgd := lgood_any X4 (HG.out.1.nxt hb4)
    rw [HB.out.2.2.1] at hgd
    have HE := Lib.hid (bNext HG.out.2 hb4)
    clear hb4 HG
    go_wp2_with fail
    refine Calls.mono hgd ?_
    rintro e X5 ⟨rfl, hb5⟩
    have HE2 := Lib.hid (bNext HE.out hb5)
    clear hb5 hgd
    go_wp2_with fail
    go_ret
    exact Ret.mk rfl HE2.out
end Go.Proofs.Ythmjkgpfnpdddaa
