/- The walk over the reference's Decode. (s7/lfrdec.py writes it.) -/
import Derived.Test.YthmjkgpfnpdddaaLfDec
import Derived.Test.YthmjkgpfnpdddaaLfBack
import Derived.Test.YthmjkgpfnpdddaaLfREnc
namespace Go.Proofs.Ythmjkgpfnpdddaa
set_option linter.unusedSimpArgs false
set_option linter.unusedVariables false
open Go.RowKit Go.ChangeShapes Go.WideShapes Go.Sort

theorem wpList_slice1 {P : Program} {ops : Array Oper} {rest : List Oper} {o : Oper} {a : Act} {w w' : World} {Q : Exit → Act → World → Prop} (hgd : o.guard = none) (t : TypeId) (k : Nat) (parts : Array (Nat × Operand)) (ho : o.op = .buildSlice t k parts) {v : Value}
    (hrun : (Instr.buildSlice t k (parts.map fun (i, x) => (i, a.eval x))).run P w = .ok v w') (h : wpList P ops Q rest (a.put o.dst v) w') : wpList P ops Q (o :: rest) a w :=
  wpList_plain hgd fun _ hK => by
    unfold Oper.wp execOp
    simp only [ho, Sem.run_bind, hrun, Result.andThen_ok, Sem.run_pure]
    exact hK _ _ h
theorem enAt_okB {b : Blk} (hb : b.length = 128) {k : Nat} (h : k < 3) : (enAt b (2 + k * 36)).Ok := by
  have h1 := (at8 b (2 + k * 36 + 32)).toNat_lt
  have h2 := (at8 b (2 + k * 36 + 33)).toNat_lt
  have h3 := n16_lt b (2 + k * 36 + 34)
  constructor <;> simp only [enAt, List.length_take, List.length_drop] <;> omega
theorem enL_ok {b : Blk} (hb : b.length = 128) {k : Nat} (h : k ≤ 3) : ∀ x ∈ enL b k, x.Ok := by
  intro x hx
  obtain ⟨j, hj, rfl⟩ := List.mem_map.1 hx
  exact enAt_okB hb (by have := List.mem_range.1 hj; omega)
theorem enL_succ (b : Blk) (k : Nat) : ens (enL b (k + 1)) = ens (enL b k) ++ (enAt b (2 + k * 36)).cells := by
  unfold enL ens
  rw [List.range_succ, List.map_append, List.flatMap_append]
  simp
theorem isLf_of {b : Blk} {k : Nat} (hb : b.length = 128) (h : (lfN b = k ∧ k ≤ 3) ∨ (k = 3 ∧ 3 < lfN b)) : isLf b = (goodE (enL b k) && (lfEnc (enL b k) == b)) := by
  rcases h with ⟨rfl, h⟩ | ⟨rfl, h⟩
  · unfold isLf lfEnc
    rw [decide_eq_true h, Bool.true_and]
    cases goodE (enL b (lfN b)) <;> rfl
  · have h0 : isLf b = false := by unfold isLf; rw [decide_eq_false (by omega), Bool.false_and]
    rw [h0, eq_comm]
    cases hg : goodE (enL b 3)
    · rfl
    · rw [Bool.true_and, beq_eq_false_iff_ne]
      intro e
      have := lfN_enc (enL_ok hb (Nat.le_refl 3)) hg
      rw [e] at this
      simp only [enL, List.length_map, List.length_range] at this
      omega
theorem lfDec_of {b : Blk} {k : Nat} (h : (lfN b = k ∧ k ≤ 3) ∨ (k = 3 ∧ 3 < lfN b)) (hi : isLf b = true) : lfDec b = enL b k := by
  unfold lfDec
  rw [if_pos hi]
  rcases h with ⟨rfl, h⟩ | ⟨rfl, h⟩
  · rfl
  · have := (isLf_parts hi).1
    omega
def zkey : List UInt8 := List.replicate 32 0
theorem built_en1 (p q r : Int) : Try.prog.built 73 [(1, .int .i64 p), (2, .int .i64 q), (3, .int .i64 r)] = some (EN.mk zkey p q r).cells.toArray := by kernel_rfl
theorem en_fill (p q r : Int) {K : List UInt8} (hK : K.length = 32) : setMany (EN.mk zkey p q r).cells.toArray 0 (bvs K) = (EN.mk K p q r).cells.toArray := by
  have := setMany_mid (x := []) (y := bvs zkey) (z := [.int .i64 p, .int .i64 q, .int .i64 r]) (v := bvs K) (by rw [bvs_len, bvs_len, hK]; rfl)
  exact this
attribute [-go_sem] Builtin.append_
set_option maxHeartbeats 16000000 in
set_option maxRecDepth 100000 in
theorem rldec_any {b : Blk} (hb : b.length = 128) (w : World) : Calls Try.prog 27 #[bkv b] w (LDec w b) := by
  unfold bkv
  obtain ⟨cb, hcb⟩ : ∃ q, (bvs b).toArray = q := ⟨_, rfl⟩
  have HC := Lib.hid hcb
  rw [hcb]
  clear hcb
  go_enter Try.func27, Try.ntmps27
  go_upto_region 1 with (fail)
  obtain ⟨V, hV⟩ : ∃ q, w.alloc (.cells cb 40) = q := ⟨_, rfl⟩
  have a1 : V.heap[w.heap.size]? = some (.cells cb 40) := by rw [← hV]; exact heap_alloc_new _ _
  have hB : Below w.heap.size w V := by rw [← hV]; exact (Below.refl _ _).alloc (Nat.le_refl _) _
  have l1 := (Array.getElem?_eq_some_iff.1 a1).1
  rw [hV]
  clear hV
  have rb : V.rangeAt w.heap.size 0 (bvs b) := range_blk (by rw [HC.out]; exact a1)
  have hcell : ∀ i : Nat, i < 128 → V.cell? ⟨w.heap.size, i, none⟩ = some (.int .u8 ((at8 b i).toNat : Int)) := fun i hi => by
    have := rb i (.int .u8 ((at8 b i).toNat : Int)) (by simp [bvs, bv, at8, List.getElem?_eq_getElem (show i < b.length by omega)])
    simpa using this
  have hlt := (at8 b 1).toNat_lt
  have c1 := hcell 1 (by omega)
  obtain ⟨n, hn⟩ : ∃ n, (at8 b 1).toNat = n := ⟨_, rfl⟩
  have hN : lfN b = n := hn
  rw [hn] at c1 hlt
  have e1 : IntKind.i64.wrap (n : Int) = n := wrap_small _ (by omega) (by omega)
  have HN := Lib.hid hN
  have HB := Lib.hid (And.intro hB (And.intro hcell (And.intro a1 rb)))
  have hcs : cb.size = 128 := by rw [← HC.out, List.size_toArray, bvs_len, hb]
  clear hN hn hB hcell a1 rb
  go_wp2_with fail
  go_loopw [4, 5] (fun sb si wr => ∃ k : Nat, k ≤ n ∧ k ≤ 3 ∧ si = .int .i64 k ∧ wr.ownsRow V.heap.size 73 35 sb k (ens (enL b k)) ∧ Below V.heap.size V wr) (fun _ i _ => 3 - (intOf i).toNat)
  case atStart => exact ⟨0, by omega, by omega, rfl, World.ownsRow_nil _ _ _ _, Below.refl _ _⟩
  case round =>
    obtain ⟨k, hk, hk3, rfl, hown, hbr⟩ := hrel
    obtain ⟨A4, c4, rfl, hc4⟩ := own_form hown
    have c1r := (hbr.cell (p := ⟨w.heap.size, 1, none⟩) l1).trans c1
    by_cases hkn : k < n
    · have hi1 : (k : Int) < (n : Int) := by omega
      by_cases hk4 : k < 3
      · have hi2 : (k : Int) < 3 := by omega
        obtain ⟨m, hm⟩ : ∃ m, 2 + k * 36 = m := ⟨_, rfl⟩
        have hm92 : m + 36 ≤ 128 := by omega
        have x0 : (36 : Int) * (k : Int) = (m : Int) - 2 := by omega
        have x1 : IntKind.i64.wrap (36 * (k : Int)) = (m : Int) - 2 := by rw [wrap_small _ (by omega) (by omega)]; omega
        have x2 : IntKind.i64.wrap (2 + ((m : Int) - 2)) = (m : Int) := by rw [wrap_small _ (by omega) (by omega)]; omega
        have k32 := (hbr.cell (p := ⟨w.heap.size, m + 32, none⟩) l1).trans (HB.out.2.1 (m + 32) (by omega))
        have k33 := (hbr.cell (p := ⟨w.heap.size, m + 33, none⟩) l1).trans (HB.out.2.1 (m + 33) (by omega))
        have k34 := (hbr.cell (p := ⟨w.heap.size, m + 34, none⟩) l1).trans (HB.out.2.1 (m + 34) (by omega))
        have k35 := (hbr.cell (p := ⟨w.heap.size, m + 35, none⟩) l1).trans (HB.out.2.1 (m + 35) (by omega))
        have u32 := (at8 b (m + 32)).toNat_lt
        have u33 := (at8 b (m + 33)).toNat_lt
        have u34 := (at8 b (m + 34)).toNat_lt
        have u35 := (at8 b (m + 35)).toNat_lt
        have hx := enAt_okB hb hk4
        have hrK := range_cut (bRange hbr l1 HB.out.2.2.2) m 32
        rw [show ((bvs b).drop m).take 32 = bvs ((b.drop m).take 32) from by simp [bvs, List.map_take, List.map_drop], Nat.zero_add] at hrK
        have hsn := enL_succ b k
        rw [hm] at hx hsn
        have hen : enAt b m = ⟨(b.drop m).take 32, (at8 b (m + 32)).toNat, (at8 b (m + 33)).toNat, (((at8 b (m + 34)).toNat * 256 + (at8 b (m + 35)).toNat : Nat) : Int)⟩ := rfl
        have hkey : ((b.drop m).take 32).length = 32 := by rw [List.length_take, List.length_drop]; omega
        obtain ⟨K, hK⟩ : ∃ q, (b.drop m).take 32 = q := ⟨_, rfl⟩
        generalize (at8 b (m + 32)).toNat = P at *
        generalize (at8 b (m + 33)).toNat = Q at *
        generalize (at8 b (m + 34)).toNat = X at *
        generalize (at8 b (m + 35)).toNat = Y at *
        obtain ⟨N, hNn⟩ : ∃ N, X * 256 + Y = N := ⟨_, rfl⟩
        rw [hK, hNn] at hen
        rw [hK] at hrK hkey
        rw [hen] at hx hsn
        have w0 : IntKind.i64.wrap (P : Int) = P := wrap_small _ (by omega) (by omega)
        have w1 : IntKind.i64.wrap (Q : Int) = Q := wrap_small _ (by omega) (by omega)
        have w2 : IntKind.i64.wrap (X : Int) = X := wrap_small _ (by omega) (by omega)
        have w3 : IntKind.i64.wrap (Y : Int) = Y := wrap_small _ (by omega) (by omega)
        have w4 : IntKind.i64.wrap ((X : Int) * 256) = (X : Int) * 256 := wrap_small _ (by omega) (by omega)
        have w5 : IntKind.i64.wrap ((X : Int) * 256 + (Y : Int)) = (N : Int) := by rw [wrap_small _ (by omega) (by omega)]; omega
        have a32 : IntKind.i64.wrap ((m : Int) + 32) = (m : Int) + 32 := wrap_small _ (by omega) (by omega)
        have a33 : IntKind.i64.wrap ((m : Int) + 33) = (m : Int) + 33 := wrap_small _ (by omega) (by omega)
        have a34 : IntKind.i64.wrap ((m : Int) + 34) = (m : Int) + 34 := wrap_small _ (by omega) (by omega)
        have a35 : IntKind.i64.wrap ((m : Int) + 35) = (m : Int) + 35 := wrap_small _ (by omega) (by omega)
        have n32 : ((m : Int) + 32).toNat = m + 32 := by omega
        have n33 : ((m : Int) + 33).toNat = m + 33 := by omega
        have n34 : ((m : Int) + 34).toNat = m + 34 := by omega
        have n35 : ((m : Int) + 35).toNat = m + 35 := by omega
        have p32 : (0 : Int) ≤ (m : Int) + 32 := by omega
        have p33 : (0 : Int) ≤ (m : Int) + 33 := by omega
        have p34 : (0 : Int) ≤ (m : Int) + 34 := by omega
        have p35 : (0 : Int) ≤ (m : Int) + 35 := by omega
        have q32 : (m : Int) + 32 < 128 := by omega
        have q33 : (m : Int) + 33 < 128 := by omega
        have q34 : (m : Int) + 34 < 128 := by omega
        have q35 : (m : Int) + 35 < 128 := by omega
        have q36 : (m : Int) + 32 ≤ 128 := by omega
        have q37 : (m : Int) ≤ (m : Int) + 32 := by omega
        have q38 : (0 : Int) ≤ (m : Int) := by omega
        have hbt := built_en1 P Q N
        have hzE := enZ
        obtain ⟨c1', hc1⟩ : ∃ q, (EN.mk zkey P Q N).cells.toArray = q := ⟨_, rfl⟩
        have h35 : c1'.size = 35 := by rw [← hc1, List.size_toArray]; simp [EN.cells, bvs_len, zkey]
        have hfill := en_fill P Q N hkey
        have hone1 : c1'.all (·.oneCell') = true := by rw [← hc1]; exact all_oneCell_toArray (one_en _)
        rw [hc1] at hbt hfill
        have hz0 : en0.cells.toArray.size = c1'.size := by rw [h35, List.size_toArray, en0_ok.len]
        have hi35 : (Try.prog.info? 73).map (·.size) = some c1'.size := by rw [h35]; exact en_size
        obtain ⟨z, hz⟩ : ∃ q, en0.cells.toArray = q := ⟨_, rfl⟩
        rw [hz] at hz0 hzE
        obtain ⟨x, hxe⟩ : ∃ x, EN.mk K (P : Int) (Q : Int) (N : Int) = x := ⟨_, rfl⟩
        rw [hxe] at hx hsn hfill
        have HH := Lib.hid (And.intro hsn (And.intro hfill (And.intro hm hxe)))
        have HG := Lib.hid (And.intro hbr hown)
        have hzr := hbr.size
        have hxk : x.key = K := by rw [← hxe]
        have HXK := Lib.hid hxk
        clear hsn hfill hm hxe hc1 hbr hown hen hK hNn x0 hz hxk
        go_upto_region 6 with (fail)
        let S : World → Prop := fun w' => Below wr.heap.size wr w'
        have r32 : ∀ w', S w' → w'.cell? ⟨w.heap.size, m + 32, none⟩ = some (.int .u8 (P : Int)) := fun w' h => (h.cell (p := ⟨w.heap.size, m + 32, none⟩) (by show w.heap.size < _; omega)).trans k32
        have r33 : ∀ w', S w' → w'.cell? ⟨w.heap.size, m + 33, none⟩ = some (.int .u8 (Q : Int)) := fun w' h => (h.cell (p := ⟨w.heap.size, m + 33, none⟩) (by show w.heap.size < _; omega)).trans k33
        have r34 : ∀ w', S w' → w'.cell? ⟨w.heap.size, m + 34, none⟩ = some (.int .u8 (X : Int)) := fun w' h => (h.cell (p := ⟨w.heap.size, m + 34, none⟩) (by show w.heap.size < _; omega)).trans k34
        have r35 : ∀ w', S w' → w'.cell? ⟨w.heap.size, m + 35, none⟩ = some (.int .u8 (Y : Int)) := fun w' h => (h.cell (p := ⟨w.heap.size, m + 35, none⟩) (by show w.heap.size < _; omega)).trans k35
        have hS0 : S wr.drew := (Below.refl _ _).drew
        clear k32 k33 k34 k35
        refine wp_region_held (S := S) (by kernel_rfl) ?_
        change wpAnyH _ _ _ _ S _ _ _ wr.drew
        refine wpAnyH_take (i := 0) (oi := ?oi_1) (v := ?v_1) ?ho_1 ?h1_1 ?h2_1 ?h3_1 ?hq_1 (Or.inl ⟨?hw_1, ?hy_1⟩) ?hs_1 ?rest_1; (case h2_1 => kernel_rfl); (case h3_1 => kernel_rfl); (case ho_1 => (simp only [List.getElem?_toArray, List.getElem?_cons_zero, List.getElem?_cons_succ]; rfl)); (case h1_1 => kernel_rfl); (case hq_1 => exact fun _ _ _ h => h); (case hw_1 => rfl); (case hy_1 => (intro w' hSw; (try simp only [S] at hSw); go_simp; (try with_reducible rfl))); (case hs_1 => assumption); (try simp only [Act.put, List.setIfInBounds_toArray, List.set_cons_zero, List.set_cons_succ])
        refine wpAnyH_take (i := 1) (oi := ?oi_2) (v := ?v_2) ?ho_2 ?h1_2 ?h2_2 ?h3_2 ?hq_2 (Or.inl ⟨?hw_2, ?hy_2⟩) ?hs_2 ?rest_2; (case h2_2 => kernel_rfl); (case h3_2 => kernel_rfl); (case ho_2 => (simp only [List.getElem?_toArray, List.getElem?_cons_zero, List.getElem?_cons_succ]; rfl)); (case h1_2 => kernel_rfl); (case hq_2 => exact fun _ _ _ h => h); (case hw_2 => rfl); (case hy_2 => (intro w' hSw; (try simp only [S] at hSw); go_simp; (try with_reducible rfl))); (case hs_2 => assumption); (try simp only [Act.put, List.setIfInBounds_toArray, List.set_cons_zero, List.set_cons_succ])
        refine wpAnyH_take (i := 2) (oi := ?oi_3) (v := ?v_3) ?ho_3 ?h1_3 ?h2_3 ?h3_3 ?hq_3 (Or.inl ⟨?hw_3, ?hy_3⟩) ?hs_3 ?rest_3; (case h2_3 => kernel_rfl); (case h3_3 => kernel_rfl); (case ho_3 => (simp only [List.getElem?_toArray, List.getElem?_cons_zero, List.getElem?_cons_succ]; rfl)); (case h1_3 => kernel_rfl); (case hq_3 => exact fun _ _ _ h => h); (case hw_3 => rfl); (case hy_3 => (intro w' hSw; (try simp only [S] at hSw); go_simp; (try with_reducible rfl))); (case hs_3 => assumption); (try simp only [Act.put, List.setIfInBounds_toArray, List.set_cons_zero, List.set_cons_succ])
        refine wpAnyH_take (i := 3) (oi := ?oi_25) (v := ?v_25) ?ho_25 ?h1_25 ?h2_25 ?h3_25 ?hq_25 (Or.inl ⟨?hw_25, ?hy_25⟩) ?hs_25 ?rest_25; (case h2_25 => kernel_rfl); (case h3_25 => kernel_rfl); (case ho_25 => (simp only [List.getElem?_toArray, List.getElem?_cons_zero, List.getElem?_cons_succ]; rfl)); (case h1_25 => kernel_rfl); (case hq_25 => exact fun _ _ _ h => h); (case hw_25 => rfl); (case hy_25 => (intro w' hSw; have hq := r32 w' hSw; go_simp; (try with_reducible rfl))); (case hs_25 => assumption); (try simp only [Act.put, List.setIfInBounds_toArray, List.set_cons_zero, List.set_cons_succ])
        refine wpAnyH_take (i := 4) (oi := ?oi_4) (v := ?v_4) ?ho_4 ?h1_4 ?h2_4 ?h3_4 ?hq_4 (Or.inl ⟨?hw_4, ?hy_4⟩) ?hs_4 ?rest_4; (case h2_4 => kernel_rfl); (case h3_4 => kernel_rfl); (case ho_4 => (simp only [List.getElem?_toArray, List.getElem?_cons_zero, List.getElem?_cons_succ]; rfl)); (case h1_4 => kernel_rfl); (case hq_4 => exact fun _ _ _ h => h); (case hw_4 => rfl); (case hy_4 => (intro w' hSw; (try simp only [S] at hSw); go_simp; (try with_reducible rfl))); (case hs_4 => assumption); (try simp only [Act.put, List.setIfInBounds_toArray, List.set_cons_zero, List.set_cons_succ])
        refine wpAnyH_take (i := 5) (oi := ?oi_5) (v := ?v_5) ?ho_5 ?h1_5 ?h2_5 ?h3_5 ?hq_5 (Or.inl ⟨?hw_5, ?hy_5⟩) ?hs_5 ?rest_5; (case h2_5 => kernel_rfl); (case h3_5 => kernel_rfl); (case ho_5 => (simp only [List.getElem?_toArray, List.getElem?_cons_zero, List.getElem?_cons_succ]; rfl)); (case h1_5 => kernel_rfl); (case hq_5 => exact fun _ _ _ h => h); (case hw_5 => rfl); (case hy_5 => (intro w' hSw; (try simp only [S] at hSw); go_simp; (try with_reducible rfl))); (case hs_5 => assumption); (try simp only [Act.put, List.setIfInBounds_toArray, List.set_cons_zero, List.set_cons_succ])
        refine wpAnyH_take (i := 6) (oi := ?oi_6) (v := ?v_6) ?ho_6 ?h1_6 ?h2_6 ?h3_6 ?hq_6 (Or.inl ⟨?hw_6, ?hy_6⟩) ?hs_6 ?rest_6; (case h2_6 => kernel_rfl); (case h3_6 => kernel_rfl); (case ho_6 => (simp only [List.getElem?_toArray, List.getElem?_cons_zero, List.getElem?_cons_succ]; rfl)); (case h1_6 => kernel_rfl); (case hq_6 => exact fun _ _ _ h => h); (case hw_6 => rfl); (case hy_6 => (intro w' hSw; (try simp only [S] at hSw); go_simp; (try with_reducible rfl))); (case hs_6 => assumption); (try simp only [Act.put, List.setIfInBounds_toArray, List.set_cons_zero, List.set_cons_succ])
        refine wpAnyH_take (i := 7) (oi := ?oi_7) (v := ?v_7) ?ho_7 ?h1_7 ?h2_7 ?h3_7 ?hq_7 (Or.inl ⟨?hw_7, ?hy_7⟩) ?hs_7 ?rest_7; (case h2_7 => kernel_rfl); (case h3_7 => kernel_rfl); (case ho_7 => (simp only [List.getElem?_toArray, List.getElem?_cons_zero, List.getElem?_cons_succ]; rfl)); (case h1_7 => kernel_rfl); (case hq_7 => exact fun _ _ _ h => h); (case hw_7 => rfl); (case hy_7 => (intro w' hSw; (try simp only [S] at hSw); go_simp; (try with_reducible rfl))); (case hs_7 => assumption); (try simp only [Act.put, List.setIfInBounds_toArray, List.set_cons_zero, List.set_cons_succ])
        refine wpAnyH_take (i := 8) (oi := ?oi_26) (v := ?v_26) ?ho_26 ?h1_26 ?h2_26 ?h3_26 ?hq_26 (Or.inl ⟨?hw_26, ?hy_26⟩) ?hs_26 ?rest_26; (case h2_26 => kernel_rfl); (case h3_26 => kernel_rfl); (case ho_26 => (simp only [List.getElem?_toArray, List.getElem?_cons_zero, List.getElem?_cons_succ]; rfl)); (case h1_26 => kernel_rfl); (case hq_26 => exact fun _ _ _ h => h); (case hw_26 => rfl); (case hy_26 => (intro w' hSw; have hq := r33 w' hSw; go_simp; (try with_reducible rfl))); (case hs_26 => assumption); (try simp only [Act.put, List.setIfInBounds_toArray, List.set_cons_zero, List.set_cons_succ])
        refine wpAnyH_take (i := 9) (oi := ?oi_8) (v := ?v_8) ?ho_8 ?h1_8 ?h2_8 ?h3_8 ?hq_8 (Or.inl ⟨?hw_8, ?hy_8⟩) ?hs_8 ?rest_8; (case h2_8 => kernel_rfl); (case h3_8 => kernel_rfl); (case ho_8 => (simp only [List.getElem?_toArray, List.getElem?_cons_zero, List.getElem?_cons_succ]; rfl)); (case h1_8 => kernel_rfl); (case hq_8 => exact fun _ _ _ h => h); (case hw_8 => rfl); (case hy_8 => (intro w' hSw; (try simp only [S] at hSw); go_simp; (try with_reducible rfl))); (case hs_8 => assumption); (try simp only [Act.put, List.setIfInBounds_toArray, List.set_cons_zero, List.set_cons_succ])
        refine wpAnyH_take (i := 10) (oi := ?oi_9) (v := ?v_9) ?ho_9 ?h1_9 ?h2_9 ?h3_9 ?hq_9 (Or.inl ⟨?hw_9, ?hy_9⟩) ?hs_9 ?rest_9; (case h2_9 => kernel_rfl); (case h3_9 => kernel_rfl); (case ho_9 => (simp only [List.getElem?_toArray, List.getElem?_cons_zero, List.getElem?_cons_succ]; rfl)); (case h1_9 => kernel_rfl); (case hq_9 => exact fun _ _ _ h => h); (case hw_9 => rfl); (case hy_9 => (intro w' hSw; (try simp only [S] at hSw); go_simp; (try with_reducible rfl))); (case hs_9 => assumption); (try simp only [Act.put, List.setIfInBounds_toArray, List.set_cons_zero, List.set_cons_succ])
        refine wpAnyH_take (i := 11) (oi := ?oi_10) (v := ?v_10) ?ho_10 ?h1_10 ?h2_10 ?h3_10 ?hq_10 (Or.inl ⟨?hw_10, ?hy_10⟩) ?hs_10 ?rest_10; (case h2_10 => kernel_rfl); (case h3_10 => kernel_rfl); (case ho_10 => (simp only [List.getElem?_toArray, List.getElem?_cons_zero, List.getElem?_cons_succ]; rfl)); (case h1_10 => kernel_rfl); (case hq_10 => exact fun _ _ _ h => h); (case hw_10 => rfl); (case hy_10 => (intro w' hSw; (try simp only [S] at hSw); go_simp; (try with_reducible rfl))); (case hs_10 => assumption); (try simp only [Act.put, List.setIfInBounds_toArray, List.set_cons_zero, List.set_cons_succ])
        refine wpAnyH_take (i := 12) (oi := ?oi_11) (v := ?v_11) ?ho_11 ?h1_11 ?h2_11 ?h3_11 ?hq_11 (Or.inl ⟨?hw_11, ?hy_11⟩) ?hs_11 ?rest_11; (case h2_11 => kernel_rfl); (case h3_11 => kernel_rfl); (case ho_11 => (simp only [List.getElem?_toArray, List.getElem?_cons_zero, List.getElem?_cons_succ]; rfl)); (case h1_11 => kernel_rfl); (case hq_11 => exact fun _ _ _ h => h); (case hw_11 => rfl); (case hy_11 => (intro w' hSw; (try simp only [S] at hSw); go_simp; (try with_reducible rfl))); (case hs_11 => assumption); (try simp only [Act.put, List.setIfInBounds_toArray, List.set_cons_zero, List.set_cons_succ])
        refine wpAnyH_take (i := 13) (oi := ?oi_27) (v := ?v_27) ?ho_27 ?h1_27 ?h2_27 ?h3_27 ?hq_27 (Or.inl ⟨?hw_27, ?hy_27⟩) ?hs_27 ?rest_27; (case h2_27 => kernel_rfl); (case h3_27 => kernel_rfl); (case ho_27 => (simp only [List.getElem?_toArray, List.getElem?_cons_zero, List.getElem?_cons_succ]; rfl)); (case h1_27 => kernel_rfl); (case hq_27 => exact fun _ _ _ h => h); (case hw_27 => rfl); (case hy_27 => (intro w' hSw; have hq := r34 w' hSw; go_simp; (try with_reducible rfl))); (case hs_27 => assumption); (try simp only [Act.put, List.setIfInBounds_toArray, List.set_cons_zero, List.set_cons_succ])
        refine wpAnyH_take (i := 14) (oi := ?oi_12) (v := ?v_12) ?ho_12 ?h1_12 ?h2_12 ?h3_12 ?hq_12 (Or.inl ⟨?hw_12, ?hy_12⟩) ?hs_12 ?rest_12; (case h2_12 => kernel_rfl); (case h3_12 => kernel_rfl); (case ho_12 => (simp only [List.getElem?_toArray, List.getElem?_cons_zero, List.getElem?_cons_succ]; rfl)); (case h1_12 => kernel_rfl); (case hq_12 => exact fun _ _ _ h => h); (case hw_12 => rfl); (case hy_12 => (intro w' hSw; (try simp only [S] at hSw); go_simp; (try with_reducible rfl))); (case hs_12 => assumption); (try simp only [Act.put, List.setIfInBounds_toArray, List.set_cons_zero, List.set_cons_succ])
        refine wpAnyH_take (i := 15) (oi := ?oi_13) (v := ?v_13) ?ho_13 ?h1_13 ?h2_13 ?h3_13 ?hq_13 (Or.inl ⟨?hw_13, ?hy_13⟩) ?hs_13 ?rest_13; (case h2_13 => kernel_rfl); (case h3_13 => kernel_rfl); (case ho_13 => (simp only [List.getElem?_toArray, List.getElem?_cons_zero, List.getElem?_cons_succ]; rfl)); (case h1_13 => kernel_rfl); (case hq_13 => exact fun _ _ _ h => h); (case hw_13 => rfl); (case hy_13 => (intro w' hSw; (try simp only [S] at hSw); go_simp; (try with_reducible rfl))); (case hs_13 => assumption); (try simp only [Act.put, List.setIfInBounds_toArray, List.set_cons_zero, List.set_cons_succ])
        refine wpAnyH_take (i := 16) (oi := ?oi_14) (v := ?v_14) ?ho_14 ?h1_14 ?h2_14 ?h3_14 ?hq_14 (Or.inl ⟨?hw_14, ?hy_14⟩) ?hs_14 ?rest_14; (case h2_14 => kernel_rfl); (case h3_14 => kernel_rfl); (case ho_14 => (simp only [List.getElem?_toArray, List.getElem?_cons_zero, List.getElem?_cons_succ]; rfl)); (case h1_14 => kernel_rfl); (case hq_14 => exact fun _ _ _ h => h); (case hw_14 => rfl); (case hy_14 => (intro w' hSw; (try simp only [S] at hSw); go_simp; (try with_reducible rfl))); (case hs_14 => assumption); (try simp only [Act.put, List.setIfInBounds_toArray, List.set_cons_zero, List.set_cons_succ])
        refine wpAnyH_take (i := 17) (oi := ?oi_15) (v := ?v_15) ?ho_15 ?h1_15 ?h2_15 ?h3_15 ?hq_15 (Or.inl ⟨?hw_15, ?hy_15⟩) ?hs_15 ?rest_15; (case h2_15 => kernel_rfl); (case h3_15 => kernel_rfl); (case ho_15 => (simp only [List.getElem?_toArray, List.getElem?_cons_zero, List.getElem?_cons_succ]; rfl)); (case h1_15 => kernel_rfl); (case hq_15 => exact fun _ _ _ h => h); (case hw_15 => rfl); (case hy_15 => (intro w' hSw; (try simp only [S] at hSw); go_simp; (try with_reducible rfl))); (case hs_15 => assumption); (try simp only [Act.put, List.setIfInBounds_toArray, List.set_cons_zero, List.set_cons_succ])
        refine wpAnyH_take (i := 18) (oi := ?oi_16) (v := ?v_16) ?ho_16 ?h1_16 ?h2_16 ?h3_16 ?hq_16 (Or.inl ⟨?hw_16, ?hy_16⟩) ?hs_16 ?rest_16; (case h2_16 => kernel_rfl); (case h3_16 => kernel_rfl); (case ho_16 => (simp only [List.getElem?_toArray, List.getElem?_cons_zero, List.getElem?_cons_succ]; rfl)); (case h1_16 => kernel_rfl); (case hq_16 => exact fun _ _ _ h => h); (case hw_16 => rfl); (case hy_16 => (intro w' hSw; (try simp only [S] at hSw); go_simp; (try with_reducible rfl))); (case hs_16 => assumption); (try simp only [Act.put, List.setIfInBounds_toArray, List.set_cons_zero, List.set_cons_succ])
        refine wpAnyH_take (i := 19) (oi := ?oi_28) (v := ?v_28) ?ho_28 ?h1_28 ?h2_28 ?h3_28 ?hq_28 (Or.inl ⟨?hw_28, ?hy_28⟩) ?hs_28 ?rest_28; (case h2_28 => kernel_rfl); (case h3_28 => kernel_rfl); (case ho_28 => (simp only [List.getElem?_toArray, List.getElem?_cons_zero, List.getElem?_cons_succ]; rfl)); (case h1_28 => kernel_rfl); (case hq_28 => exact fun _ _ _ h => h); (case hw_28 => rfl); (case hy_28 => (intro w' hSw; have hq := r35 w' hSw; go_simp; (try with_reducible rfl))); (case hs_28 => assumption); (try simp only [Act.put, List.setIfInBounds_toArray, List.set_cons_zero, List.set_cons_succ])
        refine wpAnyH_take (i := 20) (oi := ?oi_17) (v := ?v_17) ?ho_17 ?h1_17 ?h2_17 ?h3_17 ?hq_17 (Or.inl ⟨?hw_17, ?hy_17⟩) ?hs_17 ?rest_17; (case h2_17 => kernel_rfl); (case h3_17 => kernel_rfl); (case ho_17 => (simp only [List.getElem?_toArray, List.getElem?_cons_zero, List.getElem?_cons_succ]; rfl)); (case h1_17 => kernel_rfl); (case hq_17 => exact fun _ _ _ h => h); (case hw_17 => rfl); (case hy_17 => (intro w' hSw; (try simp only [S] at hSw); go_simp; (try with_reducible rfl))); (case hs_17 => assumption); (try simp only [Act.put, List.setIfInBounds_toArray, List.set_cons_zero, List.set_cons_succ])
        refine wpAnyH_take (i := 21) (oi := ?oi_18) (v := ?v_18) ?ho_18 ?h1_18 ?h2_18 ?h3_18 ?hq_18 (Or.inl ⟨?hw_18, ?hy_18⟩) ?hs_18 ?rest_18; (case h2_18 => kernel_rfl); (case h3_18 => kernel_rfl); (case ho_18 => (simp only [List.getElem?_toArray, List.getElem?_cons_zero, List.getElem?_cons_succ]; rfl)); (case h1_18 => kernel_rfl); (case hq_18 => exact fun _ _ _ h => h); (case hw_18 => rfl); (case hy_18 => (intro w' hSw; (try simp only [S] at hSw); go_simp; (try with_reducible rfl))); (case hs_18 => assumption); (try simp only [Act.put, List.setIfInBounds_toArray, List.set_cons_zero, List.set_cons_succ])
        refine wpAnyH_take (i := 22) (oi := ?oi_29) (v := ?v_29) ?ho_29 ?h1_29 ?h2_29 ?h3_29 ?hq_29 (Or.inl ⟨?hw_29, ?hy_29⟩) ?hs_29 ?rest_29; (case h2_29 => kernel_rfl); (case h3_29 => kernel_rfl); (case ho_29 => (simp only [List.getElem?_toArray, List.getElem?_cons_zero, List.getElem?_cons_succ]; rfl)); (case h1_29 => kernel_rfl); (case hq_29 => exact fun _ _ _ h => h); (case hw_29 => rfl); (case hy_29 => (intro w' hSw; refine exec_built (t := 73) (cs := c1') (parts := #[(1, .tmp 28), (2, .tmp 33), (3, .tmp 45)]) ?_ ?_ w'; exact rfl; simp only [List.map_toArray, List.map_cons, List.map_nil]; exact hbt)); (case hs_29 => assumption); (try simp only [Act.put, List.setIfInBounds_toArray, List.set_cons_zero, List.set_cons_succ])
        refine wpAnyH_ready (rs := [23]) (by kernel_rfl) (by simp) (AllReadyH.cons (o := ?oo23_30) ?hoo23_30 (fun K hK => ?steponly30) AllReadyH.nil); (case hoo23_30 => (simp only [List.getElem?_toArray, List.getElem?_cons_zero, List.getElem?_cons_succ]; rfl))
        refine step_new rfl hzE rfl ?_
        refine hK.out _ _ ((Below.refl _ wr).drew.alloc (Nat.le_refl _) _) (fun _ => ?_)
        clear hK K
        (try simp only [Act.put, List.setIfInBounds_toArray, List.set_cons_zero, List.set_cons_succ])
        refine wpAnyH_ready (rs := [24]) (by kernel_rfl) (by simp) (AllReadyH.cons (o := ?oo24_31) ?hoo24_31 (fun K hK => ?steponly31) AllReadyH.nil); (case hoo24_31 => (simp only [List.getElem?_toArray, List.getElem?_cons_zero, List.getElem?_cons_succ]; rfl))
        refine step_row rfl 73 (.tmp 7) (.tmp 46) rfl wr.heap.size c1' rfl rfl _ z (heap_alloc_new wr.drew _) hi35 hz0 hone1 ?_
        have hbY : Below wr.heap.size wr ((wr.drew.alloc (.cells z 73)).setRow wr.heap.size c1') := bSetRow ((Below.refl _ wr).drew.alloc (Nat.le_refl _) _) (Nat.le_refl _) _
        refine hK.out _ _ hbY (fun _ => ?_)
        clear hK K
        (try simp only [Act.put, List.setIfInBounds_toArray, List.set_cons_zero, List.set_cons_succ])
        refine wpAnyH_done (by kernel_rfl) ?_ _
        have g7 : ((wr.drew.alloc (.cells z 73)).setRow wr.heap.size c1').heap[wr.heap.size]? = some (.cells c1' 73) := setRow_heap _ _ _ _ _ _ (heap_alloc_new wr.drew _)
        clear hS0 r32 r33 r34 r35 w0 w1 w2 w3 w4 w5 hbt hzE
        generalize (wr.drew.alloc (.cells z 73)).setRow wr.heap.size c1' = Y0 at *
        have hbwr : w.heap.size < wr.heap.size := by omega
        have hrK0 := bRange hbY hbwr hrK
        have hcopy := fun ty => run_copy_cells (P := Try.prog) Y0.drew 22 22 ty 5 wr.heap.size 0 32 32 ⟨w.heap.size, m, none⟩ 32 (128 - m) (bvs K) Try.underlying22 (by kernel_rfl) (by rw [bvs_len, hkey]; rfl) (fun j v hj => by rw [addr_add]; exact hrK0 j v hj)
          (fun j hj => ((there_blk (W := Y0.drew) g7 (o := 0) (n := 32) (by rw [h35]; omega)) j (by rw [bvs_len, hkey] at hj; exact hj)).1) (fun j hj => blk_frozen (W := Y0.drew) g7 _) (oneCell_bvs _)
        rw [bvs_len, hkey] at hcopy
        have g7' := blk_sets (bvs K) 0 (W := Y0.drew) g7
        rw [HH.out.2.1] at g7'
        have hbY1 : Below wr.heap.size wr (Y0.drew.setCells wr.heap.size 0 (bvs K)) := (but_sets (X := fun k => k = wr.heap.size) _ _ _ ((but_of hbY).drew) rfl).below (Nat.le_refl _) (fun k e => by omega)
        have n36 : m + 32 - m = 32 := by omega
        have n128 : ¬ 128 = m := by omega
        go_upto_region 7 with (fail)
        let S : World → Prop := fun _ => True
        refine wp_region_held (S := S) (by kernel_rfl) ?_
        change wpAnyH _ _ _ _ S _ _ _ Y0.drew
        have hS1 : S Y0.drew := trivial
        refine wpAnyH_take (i := 0) (oi := ?oi_19) (v := ?v_19) ?ho_19 ?h1_19 ?h2_19 ?h3_19 ?hq_19 (Or.inl ⟨?hw_19, ?hy_19⟩) ?hs_19 ?rest_19; (case h2_19 => kernel_rfl); (case h3_19 => kernel_rfl); (case ho_19 => (simp only [List.getElem?_toArray, List.getElem?_cons_zero, List.getElem?_cons_succ]; rfl)); (case h1_19 => kernel_rfl); (case hq_19 => exact fun _ _ _ h => h); (case hw_19 => rfl); (case hy_19 => (intro w' hSw; (try simp only [S] at hSw); go_simp; (try with_reducible rfl))); (case hs_19 => assumption); (try simp only [Act.put, List.setIfInBounds_toArray, List.set_cons_zero, List.set_cons_succ])
        refine wpAnyH_take (i := 1) (oi := ?oi_20) (v := ?v_20) ?ho_20 ?h1_20 ?h2_20 ?h3_20 ?hq_20 (Or.inl ⟨?hw_20, ?hy_20⟩) ?hs_20 ?rest_20; (case h2_20 => kernel_rfl); (case h3_20 => kernel_rfl); (case ho_20 => (simp only [List.getElem?_toArray, List.getElem?_cons_zero, List.getElem?_cons_succ]; rfl)); (case h1_20 => kernel_rfl); (case hq_20 => exact fun _ _ _ h => h); (case hw_20 => rfl); (case hy_20 => (intro w' hSw; (try simp only [S] at hSw); go_simp; (try with_reducible rfl))); (case hs_20 => assumption); (try simp only [Act.put, List.setIfInBounds_toArray, List.set_cons_zero, List.set_cons_succ])
        refine wpAnyH_take (i := 2) (oi := ?oi_21) (v := ?v_21) ?ho_21 ?h1_21 ?h2_21 ?h3_21 ?hq_21 (Or.inl ⟨?hw_21, ?hy_21⟩) ?hs_21 ?rest_21; (case h2_21 => kernel_rfl); (case h3_21 => kernel_rfl); (case ho_21 => (simp only [List.getElem?_toArray, List.getElem?_cons_zero, List.getElem?_cons_succ]; rfl)); (case h1_21 => kernel_rfl); (case hq_21 => exact fun _ _ _ h => h); (case hw_21 => rfl); (case hy_21 => (intro w' hSw; (try simp only [S] at hSw); go_simp; (try with_reducible rfl))); (case hs_21 => assumption); (try simp only [Act.put, List.setIfInBounds_toArray, List.set_cons_zero, List.set_cons_succ])
        refine wpAnyH_take (i := 3) (oi := ?oi_22) (v := ?v_22) ?ho_22 ?h1_22 ?h2_22 ?h3_22 ?hq_22 (Or.inl ⟨?hw_22, ?hy_22⟩) ?hs_22 ?rest_22; (case h2_22 => kernel_rfl); (case h3_22 => kernel_rfl); (case ho_22 => (simp only [List.getElem?_toArray, List.getElem?_cons_zero, List.getElem?_cons_succ]; rfl)); (case h1_22 => kernel_rfl); (case hq_22 => exact fun _ _ _ h => h); (case hw_22 => rfl); (case hy_22 => (intro w' hSw; (try simp only [S] at hSw); go_simp; (try with_reducible rfl))); (case hs_22 => assumption); (try simp only [Act.put, List.setIfInBounds_toArray, List.set_cons_zero, List.set_cons_succ])
        refine wpAnyH_take (i := 4) (oi := ?oi_23) (v := ?v_23) ?ho_23 ?h1_23 ?h2_23 ?h3_23 ?hq_23 (Or.inl ⟨?hw_23, ?hy_23⟩) ?hs_23 ?rest_23; (case h2_23 => kernel_rfl); (case h3_23 => kernel_rfl); (case ho_23 => (simp only [List.getElem?_toArray, List.getElem?_cons_zero, List.getElem?_cons_succ]; rfl)); (case h1_23 => kernel_rfl); (case hq_23 => exact fun _ _ _ h => h); (case hw_23 => rfl); (case hy_23 => (intro w' hSw; (try simp only [S] at hSw); go_simp; (try with_reducible rfl))); (case hs_23 => assumption); (try simp only [Act.put, List.setIfInBounds_toArray, List.set_cons_zero, List.set_cons_succ])
        refine wpAnyH_take (i := 5) (oi := ?oi_24) (v := ?v_24) ?ho_24 ?h1_24 ?h2_24 ?h3_24 ?hq_24 (Or.inl ⟨?hw_24, ?hy_24⟩) ?hs_24 ?rest_24; (case h2_24 => kernel_rfl); (case h3_24 => kernel_rfl); (case ho_24 => (simp only [List.getElem?_toArray, List.getElem?_cons_zero, List.getElem?_cons_succ]; rfl)); (case h1_24 => kernel_rfl); (case hq_24 => exact fun _ _ _ h => h); (case hw_24 => rfl); (case hy_24 => (intro w' hSw; (try simp only [S] at hSw); go_simp; (try with_reducible rfl))); (case hs_24 => assumption); (try simp only [Act.put, List.setIfInBounds_toArray, List.set_cons_zero, List.set_cons_succ])
        refine wpAnyH_ready (rs := [6]) (by kernel_rfl) (by simp) (AllReadyH.cons (o := ?oo6_32) ?hoo6_32 (fun K hK => ?steponly32) AllReadyH.nil); (case hoo6_32 => (simp only [List.getElem?_toArray, List.getElem?_cons_zero, List.getElem?_cons_succ]; rfl))
        go_simp
        refine hK.out _ _ trivial (fun _ => ?_)
        clear hK K hcopy hS1
        (try simp only [Act.put, List.setIfInBounds_toArray, List.set_cons_zero, List.set_cons_succ])
        refine wpAnyH_done (by kernel_rfl) ?_ _
        generalize Y0.drew.setCells wr.heap.size 0 (bvs K) = Y1 at *
        clear hbY g7 hrK0 hrK
        obtain ⟨hbr, hown⟩ := HG.out
        have hownY := own_below hown hbY1
        have hxl := hx.len
        have hii := en_info hx
        have honeX := one_en x
        obtain ⟨cl, hcl⟩ : ∃ q, x.cells = q := ⟨_, rfl⟩
        rw [hcl] at g7' hii honeX hxl
        have hz2 : V.heap.size ≤ Y1.heap.size := Nat.le_trans hzr hbY1.size
        have hbs := run_slice1 (P := Try.prog) (t := 49) enZ Try.underlying49 (by rw [List.size_toArray, en0_ok.len]) (by omega) (by omega) cl hxl Y1
        have hcS := Sl.new (sz := 35) (n := 1) (heap_alloc_new Y1 (.cells cl.toArray 73)) (by simpa using hxl)
        have HR := Lib.hid (And.intro (hbr.trans (hbY1.mono hzr)) HH.out.1)
        clear hbr hown hbY1
        go_upto_region 8 with (fail)
        refine wp_region_lit ?_
        iterate 3 (first | go_guarded | go_step)
        refine wpList_load_row rfl 73 (.tmp 7) rfl _ rfl _ cl.toArray (0, 0) _ g7' Try.underlying73 rfl hii ?_
        (try simp only [Act.put, List.setIfInBounds_toArray, List.set_cons_zero, List.set_cons_succ])
        refine wpList_slice1 (v := .slice (some ⟨Y1.heap.size, 0, none⟩) 1 1) (w' := Y1.alloc (.cells cl.toArray 73)) rfl 49 1 #[(0, .tmp 55)] rfl (by simp only [List.map_toArray, List.map_cons, List.map_nil]; exact hbs) ?_
        (try simp only [Act.put, List.setIfInBounds_toArray, List.set_cons_zero, List.set_cons_succ])
        refine wpList_app _ rfl (.tmp 54) (.tmp 56) 49 rfl (base := V.heap.size) Try.underlying49 elemE rfl (hownY.alloc _) rfl hcS (by simpa using honeX) (by simp only [maxLen]; omega) (by omega) (by simp; omega) ?_
        intro A20 c20 w20 hown4 hg4 hb4 hat4
        (try simp only [Act.put, List.setIfInBounds_toArray, List.set_cons_zero, List.set_cons_succ])
        have hB4 := (HR.out.1.alloc hz2 (.cells cl.toArray 73)).trans hb4
        have hown5 : w20.ownsRow V.heap.size 73 35 (.slice A20 (k + 1) c20) (k + 1) (ens (enL b (k + 1))) := by rw [HR.out.2, hcl]; exact hown4
        have HF := Lib.hid (And.intro hown5 hB4)
        clear hown4 hg4 hb4 hat4 hB4 hown5 hownY hcS hbs g7'
        go_wp2_with fail
        refine ⟨⟨k + 1, by omega, by omega, by go_num, HF.out.1, HF.out.2⟩, by simp [intOf]; omega⟩
      · obtain rfl : k = 3 := by omega
        have hi2 : ¬ ((3 : Nat) : Int) < 3 := by omega
        have hway : (lfN b = 3 ∧ 3 ≤ 3) ∨ (3 = 3 ∧ 3 < lfN b) := .inr ⟨rfl, by rw [HN.out]; exact hkn⟩
        have hat : LfAt wr wr.heap.size A4 3 c4 (enL b 3) := ⟨enL_ok hb (by omega), by simp [enL], Sl.of_own hown, hc4.1⟩
        have hlf := isLf_of hb hway
        have hld := lfDec_of hway
        have henc := rlenc_any wr hat (by omega)
        unfold bkv at henc
        have hBY := bNext HB.out.1 hbr
        have a1Y := bBlk hbr l1 HB.out.2.2.1
        have el := lfEnc_len hat.ok
        have HY := Lib.hid (And.intro hat (And.intro hBY a1Y))
        have HL := Lib.hid (And.intro hlf hld)
        clear hat hBY a1Y hown hbr hway hlf hld
        go_upto_region 9 with (fail)
        go_wp2_with fail
        refine Calls.mono henc ?_
        rintro e Z ⟨rfl, hbZ⟩
        have a1 := bBlk hbZ (Array.getElem?_eq_some_iff.1 HY.out.2.2).1 HY.out.2.2
        have hBZ := bNext HY.out.2.1 hbZ
        have hatZ := HY.out.1.nxt hbZ
        have HZ := Lib.hid (And.intro hBZ (And.intro hatZ a1))
        clear henc hbZ hBZ hatZ a1
        obtain ⟨P, hP⟩ : ∃ q, lfEnc (enL b 3) = q := ⟨_, rfl⟩
        rw [hP] at el ⊢
        have HP := Lib.hid hP
        clear hP
        have hpi := bk_info el
        have hp1 := oneCell_bvs P
        have hbz := blkZ
        have hps := blk_sizes zblk_len el
        obtain ⟨zb, hzb⟩ : ∃ q, (bvs zblk).toArray = q := ⟨_, rfl⟩
        rw [hzb] at hbz hps
        clear hzb
        go_upto_region 10 with (first
          | (refine wpList_new rfl hbz rfl ?_)
          | (refine wpList_store_row rfl 40 (.tmp 8) (.tmp 61) rfl _ (bvs P).toArray rfl rfl _ zb (heap_alloc_new _ _) hpi hps (all_oneCell_toArray hp1) ?_)
          | fail)
        generalize hX : World.setRow _ _ _ = X
        have x6 : X.heap[Z.heap.size]? = some (.cells (bvs P).toArray 40) := by rw [← hX]; exact setRow_heap _ _ _ _ _ _ (heap_alloc_new _ _)
        have hbX : Below Z.heap.size Z X := by rw [← hX]; exact bSetRow ((Below.refl _ _).alloc (Nat.le_refl _) _) (Nat.le_refl _) _
        clear hX
        obtain ⟨hBZ, hatZ, a1Z⟩ := HZ.out
        have a1 := bBlk hbX (Array.getElem?_eq_some_iff.1 a1Z).1 a1Z
        have hBX := bNext hBZ hbX
        have hatX := hatZ.nxt hbX
        obtain ⟨hlf, hld⟩ := HL.out
        rw [HP.out] at hlf
        clear hBZ hatZ a1Z hbX HZ HY hp1 hbz hps HL HP
        cases hg : goodE (enL b 3)
        · have hno : isLf b = false := by rw [hlf, hg, Bool.false_and]
          have hnl : lfDec b = [] := by unfold lfDec; rw [hno]; rfl
          have HE := Lib.hid (And.intro hno (And.intro hnl hBX))
          clear hno hnl hBX hg hatX a1 x6 hlf hld
          rw [show erE false = 11 from rfl]
          go_wp2_with fail
          go_returns
          refine ⟨none, 0, 0, by rw [HE.out.1]; rfl, by rw [HE.out.2.1]; exact lfAt_none _ _, HE.out.2.2⟩
        · have hq := fun W => blk_q el hb W
          obtain ⟨q, hqq⟩ : ∃ q, (P == b) = q := ⟨_, rfl⟩
          simp only [hqq, HC.out] at hq
          rw [hg, hqq, Bool.true_and] at hlf
          have hbi := bk_info hb
          rw [HC.out] at hbi
          have HE := Lib.hid (And.intro hlf (And.intro hBX (And.intro hatX hld)))
          obtain ⟨cp, hcp⟩ : ∃ q, (bvs P).toArray = q := ⟨_, rfl⟩
          rw [hcp] at hpi x6
          simp only [hcp] at hq
          rw [hcp]
          clear hlf hBX hg hatX hqq hcp hld
          rw [show erE true = 0 from rfl]
          cases q
          · go_wp2_with (first
              | (refine wpList_load_row_g (by simp [Region.wanted, yielded, Act.put]) 40 (.tmp 8) rfl _ rfl _ cp (0, 0) _ x6 Try.underlying40 rfl hpi ?_)
              | (refine wpList_load_row_g (by simp [Region.wanted, yielded, Act.put]) 40 (.tmp 1) rfl _ rfl _ cb (0, 0) _ a1 Try.underlying40 rfl hbi ?_)
              | fail)
            go_returns
            refine ⟨none, 0, 0, by rw [HE.out.1]; rfl, by unfold lfDec; rw [HE.out.1]; exact lfAt_none _ _, HE.out.2.1⟩
          · go_wp2_with (first
              | (refine wpList_load_row_g (by simp [Region.wanted, yielded, Act.put]) 40 (.tmp 8) rfl _ rfl _ cp (0, 0) _ x6 Try.underlying40 rfl hpi ?_)
              | (refine wpList_load_row_g (by simp [Region.wanted, yielded, Act.put]) 40 (.tmp 1) rfl _ rfl _ cb (0, 0) _ a1 Try.underlying40 rfl hbi ?_)
              | fail)
            go_returns
            refine ⟨A4, 3, c4, by rw [HE.out.1]; rfl, by rw [HE.out.2.2.2 HE.out.1]; exact HE.out.2.2.1, HE.out.2.1⟩
    · obtain rfl : k = n := by omega
      have hi1 : ¬ (k : Int) < (k : Int) := by omega
      have hway : (lfN b = k ∧ k ≤ 3) ∨ (k = 3 ∧ 3 < lfN b) := .inl ⟨HN.out, hk3⟩
      have hat : LfAt wr wr.heap.size A4 k c4 (enL b k) := ⟨enL_ok hb (by omega), by simp [enL], Sl.of_own hown, hc4.1⟩
      have hlf := isLf_of hb hway
      have hld := lfDec_of hway
      have henc := rlenc_any wr hat (by omega)
      unfold bkv at henc
      have hBY := bNext HB.out.1 hbr
      have a1Y := bBlk hbr l1 HB.out.2.2.1
      have el := lfEnc_len hat.ok
      have HY := Lib.hid (And.intro hat (And.intro hBY a1Y))
      have HL := Lib.hid (And.intro hlf hld)
      clear hat hBY a1Y hown hbr hway hlf hld
      go_upto_region 9 with (fail)
      go_wp2_with fail
      refine Calls.mono henc ?_
      rintro e Z ⟨rfl, hbZ⟩
      have a1 := bBlk hbZ (Array.getElem?_eq_some_iff.1 HY.out.2.2).1 HY.out.2.2
      have hBZ := bNext HY.out.2.1 hbZ
      have hatZ := HY.out.1.nxt hbZ
      have HZ := Lib.hid (And.intro hBZ (And.intro hatZ a1))
      clear henc hbZ hBZ hatZ a1
      obtain ⟨P, hP⟩ : ∃ q, lfEnc (enL b k) = q := ⟨_, rfl⟩
      rw [hP] at el ⊢
      have HP := Lib.hid hP
      clear hP
      have hpi := bk_info el
      have hp1 := oneCell_bvs P
      have hbz := blkZ
      have hps := blk_sizes zblk_len el
      obtain ⟨zb, hzb⟩ : ∃ q, (bvs zblk).toArray = q := ⟨_, rfl⟩
      rw [hzb] at hbz hps
      clear hzb
      go_upto_region 10 with (first
        | (refine wpList_new rfl hbz rfl ?_)
        | (refine wpList_store_row rfl 40 (.tmp 8) (.tmp 61) rfl _ (bvs P).toArray rfl rfl _ zb (heap_alloc_new _ _) hpi hps (all_oneCell_toArray hp1) ?_)
        | fail)
      generalize hX : World.setRow _ _ _ = X
      have x6 : X.heap[Z.heap.size]? = some (.cells (bvs P).toArray 40) := by rw [← hX]; exact setRow_heap _ _ _ _ _ _ (heap_alloc_new _ _)
      have hbX : Below Z.heap.size Z X := by rw [← hX]; exact bSetRow ((Below.refl _ _).alloc (Nat.le_refl _) _) (Nat.le_refl _) _
      clear hX
      obtain ⟨hBZ, hatZ, a1Z⟩ := HZ.out
      have a1 := bBlk hbX (Array.getElem?_eq_some_iff.1 a1Z).1 a1Z
      have hBX := bNext hBZ hbX
      have hatX := hatZ.nxt hbX
      obtain ⟨hlf, hld⟩ := HL.out
      rw [HP.out] at hlf
      clear hBZ hatZ a1Z hbX HZ HY hp1 hbz hps HL HP
      cases hg : goodE (enL b k)
      · have hno : isLf b = false := by rw [hlf, hg, Bool.false_and]
        have hnl : lfDec b = [] := by unfold lfDec; rw [hno]; rfl
        have HE := Lib.hid (And.intro hno (And.intro hnl hBX))
        clear hno hnl hBX hg hatX a1 x6 hlf hld
        rw [show erE false = 11 from rfl]
        go_wp2_with fail
        go_returns
        refine ⟨none, 0, 0, by rw [HE.out.1]; rfl, by rw [HE.out.2.1]; exact lfAt_none _ _, HE.out.2.2⟩
      · have hq := fun W => blk_q el hb W
        obtain ⟨q, hqq⟩ : ∃ q, (P == b) = q := ⟨_, rfl⟩
        simp only [hqq, HC.out] at hq
        rw [hg, hqq, Bool.true_and] at hlf
        have hbi := bk_info hb
        rw [HC.out] at hbi
        have HE := Lib.hid (And.intro hlf (And.intro hBX (And.intro hatX hld)))
        obtain ⟨cp, hcp⟩ : ∃ q, (bvs P).toArray = q := ⟨_, rfl⟩
        rw [hcp] at hpi x6
        simp only [hcp] at hq
        rw [hcp]
        clear hlf hBX hg hatX hqq hcp hld
        rw [show erE true = 0 from rfl]
        cases q
        · go_wp2_with (first
            | (refine wpList_load_row_g (by simp [Region.wanted, yielded, Act.put]) 40 (.tmp 8) rfl _ rfl _ cp (0, 0) _ x6 Try.underlying40 rfl hpi ?_)
            | (refine wpList_load_row_g (by simp [Region.wanted, yielded, Act.put]) 40 (.tmp 1) rfl _ rfl _ cb (0, 0) _ a1 Try.underlying40 rfl hbi ?_)
            | fail)
          go_returns
          refine ⟨none, 0, 0, by rw [HE.out.1]; rfl, by unfold lfDec; rw [HE.out.1]; exact lfAt_none _ _, HE.out.2.1⟩
        · go_wp2_with (first
            | (refine wpList_load_row_g (by simp [Region.wanted, yielded, Act.put]) 40 (.tmp 8) rfl _ rfl _ cp (0, 0) _ x6 Try.underlying40 rfl hpi ?_)
            | (refine wpList_load_row_g (by simp [Region.wanted, yielded, Act.put]) 40 (.tmp 1) rfl _ rfl _ cb (0, 0) _ a1 Try.underlying40 rfl hbi ?_)
            | fail)
          go_returns
          refine ⟨A4, k, c4, by rw [HE.out.1]; rfl, by rw [HE.out.2.2.2 HE.out.1]; exact HE.out.2.2.1, HE.out.2.1⟩
end Go.Proofs.Ythmjkgpfnpdddaa
