/- The walk over RevPlaces. -/
import Derived.Test.YtjfkaebikmnnaaaRevWakes
import Derived.Test.YtjfkaebikmnnaaaRevArg
namespace Go.Proofs.Ytjfkaebikmnnaaa
set_option linter.unusedSimpArgs false
set_option linter.unusedVariables false
open Go.RowKit Go.ChangeShapes Go.WideShapes Go.Sort

set_option maxHeartbeats 16000000 in
set_option maxRecDepth 100000 in
theorem revPlaces_no {r : RV} (hr : r.Ok) (hg : r.good = false) (w : World) : Calls Try.prog 9 #[rvv r] w (Ret w (.bool true)) := by
  have hw := bad_ways hg
  have hrv := fun W => rev_any hr W
  have e1 : r.enc = [] := by unfold RV.enc; rw [hg]; rfl
  rw [hg, e1, erN] at hrv
  have hof := fun (W : World) (g : Nat) (h : W.heap[g]? = some (.cells r.cells.toArray 43)) => RvAt.of hr h
  have iA := rv_info hr
  unfold rvv EncP at hrv
  unfold rvv
  obtain ⟨num, par, src, sty, tre, pag⟩ := r
  simp only at hw
  obtain ⟨cs, hcs⟩ : ∃ cs, (RV.cells ⟨num, par, src, sty, tre, pag⟩).toArray = cs := ⟨_, rfl⟩
  rw [hcs] at hof hrv iA ⊢
  clear hcs hg hr e1
  go_enter Try.func9, Try.ntmps9
  go_upto_region 1 with (fail)
  obtain ⟨W, hW⟩ : ∃ W, w.alloc (.cells cs 43) = W := ⟨_, rfl⟩
  try rw [hW]
  have a1 : W.heap[w.heap.size]? = some (.cells cs 43) := by rw [← hW]; exact heap_alloc_new _ _
  have hB : Below w.heap.size w W := by rw [← hW]; exact (Below.refl _ _).alloc (Nat.le_refl _) _
  have l1 := (Array.getElem?_eq_some_iff.1 a1).1
  clear hW
  refine wp_region_lit ?_
  refine wpList_load_row rfl 43 (.tmp 1) rfl _ rfl _ cs (0, 0) _ a1 Try.underlying43 rfl iA ?_
  (try simp only [Act.put, List.setIfInBounds_toArray, List.set_cons_zero, List.set_cons_succ])
  go_wp2_with fail
  refine Calls.mono (hrv _) ?_
  rintro e Y ⟨A2, n2, c2, rfl, hn2, -, -, -, -, hb2⟩
  replace hn2 : n2 = 0 := hn2
  subst hn2
  obtain ⟨-, c0, c1, -, -, -, c98⟩ := hof Y _ (bBlk hb2 l1 a1)
  simp only at c0 c1 c98
  have hB2 := hB.trans (hb2.mono hB.size)
  have HB := Lib.hid hB2
  clear hof hrv a1 hb2 hB hB2
  rcases hw with h | ⟨h1, h⟩ | ⟨h1, h2, h⟩ | ⟨h1, h2, h3, h⟩ | ⟨h1, h2, h3, h4, h⟩ | ⟨h1, h2, h3, h4, h5, h⟩
  all_goals
    (try have hd : decide (pag ≤ 255) = false := decide_eq_false (by omega))
    go_wp2_with (first
      | (go_at_call 18; refine Calls.mono (wakes24_any _) ?_; rintro e W3 ⟨rfl, hb3⟩)
      | fail)
    go_ret
    exact Ret.mk rfl (HB.out.trans (hb3.mono HB.out.size))

theorem at8_bytes (r : RV) : at8 r.bytes 0 = u8 (r.num / 256) ∧ at8 r.bytes 1 = u8 r.num ∧ at8 r.bytes 2 = u8 (r.par / 256) ∧ at8 r.bytes 3 = u8 r.par ∧ at8 r.bytes 4 = u8 r.pag := ⟨rfl, rfl, rfl, rfl, rfl⟩
theorem sl_cut {w : World} {B n : Nat} {p o : Nat} {l m : List UInt8} (h : Sl w B 1 (some ⟨p, o, none⟩) n (bvs l)) (k : Nat) {q : Nat} (hm : (l.drop k).take q = m) (hq : m.length = q) (h0 : 0 < n) : Sl w B 1 (some ⟨p, o + k, none⟩) q (bvs m) := by
  obtain ⟨p', o', e, hb, hr⟩ := h.at_ h0
  simp only [Option.some.injEq, Addr.mk.injEq, and_true] at e
  obtain ⟨rfl, rfl⟩ := e
  refine ⟨by rw [bvs_len, hq, Nat.mul_one], fun _ => ⟨p, o + k, rfl, hb, ?_⟩⟩
  have := range_cut hr k q
  rwa [show ((bvs l).drop k).take q = bvs ((l.drop k).take q) from by simp [bvs, List.map_take, List.map_drop], hm] at this
set_option maxHeartbeats 16000000 in
set_option maxRecDepth 100000 in
theorem revPlaces_yes {r : RV} (hr : r.Ok) (hg : r.good = true) (w : World) : Calls Try.prog 9 #[rvv r] w (Ret w (.bool true)) := by
  obtain ⟨g1, g2, g3, g4, g5, g6⟩ := (good_iff r).1 hg
  have hrv := fun W => rev_any hr W
  have e1 : r.enc = r.bytes := by unfold RV.enc; rw [hg]; rfl
  rw [hg, e1, erT] at hrv
  have hof := fun (W : World) (g : Nat) (h : W.heap[g]? = some (.cells r.cells.toArray 43)) => RvAt.of hr h
  have iA := rv_info hr
  have hlb := hr.bytes
  have hdb := dec_bytes hr hg
  have p1 : (r.bytes.drop 5).take 32 = r.src := congrArg RV.src hdb
  have p2 : (r.bytes.drop 37).take 32 = r.sty := congrArg RV.sty hdb
  have p3 : (r.bytes.drop 69).take 32 = r.tre := congrArg RV.tre hdb
  obtain ⟨x0, x1, x2, x3, x4⟩ := at8_bytes r
  have hs := hr.src
  have ht := hr.sty
  have hu := hr.tre
  unfold rvv EncP at hrv
  unfold rvv
  obtain ⟨num, par, src, sty, tre, pag⟩ := r
  simp only at g1 g2 g3 g4 g5 g6 p1 p2 p3 x0 x1 x2 x3 x4 hs ht hu
  obtain ⟨cs, hcs⟩ : ∃ cs, (RV.cells ⟨num, par, src, sty, tre, pag⟩).toArray = cs := ⟨_, rfl⟩
  obtain ⟨bs, hbs⟩ : ∃ b, (RV.bytes ⟨num, par, src, sty, tre, pag⟩) = b := ⟨_, rfl⟩
  rw [hcs] at hof hrv iA ⊢
  rw [hbs] at hrv hlb p1 p2 p3 x0 x1 x2 x3 x4
  clear hcs hg hr e1 hdb hbs
  have HP := Lib.hid (And.intro p1 (And.intro p2 (And.intro p3 (And.intro hs (And.intro ht hu)))))
  have HX := Lib.hid (And.intro x0 (And.intro x1 (And.intro x2 (And.intro x3 x4))))
  clear p1 p2 p3 x0 x1 x2 x3 x4 hs ht hu
  go_enter Try.func9, Try.ntmps9
  go_upto_region 1 with (fail)
  obtain ⟨W, hW⟩ : ∃ W, w.alloc (.cells cs 43) = W := ⟨_, rfl⟩
  try rw [hW]
  have a1 : W.heap[w.heap.size]? = some (.cells cs 43) := by rw [← hW]; exact heap_alloc_new _ _
  have hB : Below w.heap.size w W := by rw [← hW]; exact (Below.refl _ _).alloc (Nat.le_refl _) _
  have l1 := (Array.getElem?_eq_some_iff.1 a1).1
  clear hW
  refine wp_region_lit ?_
  refine wpList_load_row rfl 43 (.tmp 1) rfl _ rfl _ cs (0, 0) _ a1 Try.underlying43 rfl iA ?_
  (try simp only [Act.put, List.setIfInBounds_toArray, List.set_cons_zero, List.set_cons_succ])
  go_wp2_with fail
  refine Calls.mono (hrv _) ?_
  rintro e Y ⟨A2, n2, c2, rfl, hn2, hnc, -, -, s2, hb2⟩
  replace hn2 := hn2.trans hlb
  subst hn2
  obtain ⟨-, c0, c1, rs, rt, ru, c98⟩ := hof Y _ (bBlk hb2 l1 a1)
  simp only at c0 c1 rs rt ru c98
  obtain ⟨p, o, rfl, -, -⟩ := s2.at_ (by omega)
  have k0 := u8c (s2.cellAt rfl (i := 0) (by omega)) (z := num / 256) (by rw [HX.out.1, u8_toNat]; omega)
  have k1 := u8c (s2.cellAt rfl (i := 1) (by omega)) (z := num % 256) (by rw [HX.out.2.1, u8_toNat])
  have k2 := u8c (s2.cellAt rfl (i := 2) (by omega)) (z := par / 256) (by rw [HX.out.2.2.1, u8_toNat]; omega)
  have k3 := u8c (s2.cellAt rfl (i := 3) (by omega)) (z := par % 256) (by rw [HX.out.2.2.2.1, u8_toNat])
  have k4 := u8c (s2.cellAt rfl (i := 4) (by omega)) (z := pag) (by rw [HX.out.2.2.2.2, u8_toNat]; omega)
  rw [Nat.add_zero] at k0
  obtain ⟨p1, p2, p3, hs, ht, hu⟩ := HP.out
  have q1 := sl_cut s2 5 p1 hs (by omega)
  have q2 := sl_cut s2 37 p2 ht (by omega)
  have q3 := sl_cut s2 69 p3 hu (by omega)
  have hlY : w.heap.size < Y.heap.size := by have := hb2.size; omega
  have v1 : Sl Y Y.heap.size 1 (some ⟨w.heap.size, 2, none⟩) 32 (bvs src) := ⟨by rw [bvs_len, hs], fun _ => ⟨_, _, rfl, hlY, rs⟩⟩
  have v2 : Sl Y Y.heap.size 1 (some ⟨w.heap.size, 34, none⟩) 32 (bvs sty) := ⟨by rw [bvs_len, ht], fun _ => ⟨_, _, rfl, hlY, rt⟩⟩
  have v3 : Sl Y Y.heap.size 1 (some ⟨w.heap.size, 66, none⟩) 32 (bvs tre) := ⟨by rw [bvs_len, hu], fun _ => ⟨_, _, rfl, hlY, ru⟩⟩
  have hB2 := hB.trans (hb2.mono hB.size)
  have HB := Lib.hid hB2
  have HQ := Lib.hid (And.intro q1 (And.intro q2 (And.intro q3 (And.intro v1 (And.intro v2 v3)))))
  have HK := Lib.hid (And.intro k0 (And.intro k1 (And.intro k2 (And.intro k3 k4))))
  have hbp : p < Y.heap.size := (s2.at_ (by omega)).elim fun p' ⟨o', e, h, _⟩ => by simp only [Option.some.injEq, Addr.mk.injEq, and_true] at e; omega
  have HL := Lib.hid (And.intro hlY hbp)
  have HC := Lib.hid (And.intro c0 (And.intro c1 c98))
  have f5 : ¬ c2 = 5 := by omega
  have f37 : ¬ c2 = 37 := by omega
  have f69 : ¬ c2 = 69 := by omega
  have i37 : (37 : Int) ≤ (c2 : Int) := by omega
  have i69 : (69 : Int) ≤ (c2 : Int) := by omega
  have i101 : (101 : Int) ≤ (c2 : Int) := by omega
  clear hof hrv a1 hb2 hB hB2 s2 rs rt ru q1 q2 q3 v1 v2 v3 p1 p2 p3 hs ht hu hlY hlb k0 k1 k2 k3 k4 hbp
  go_wp2_with fail
  simp only [List.append_eq, List.cons_append, List.nil_append]
  clear c0 c1 c98
  let S : World → Prop := fun w' => Below Y.heap.size Y w'
  have hS0 : S Y.drew := (Below.refl _ _).drew
  obtain ⟨q1, q2, q3, v1, v2, v3⟩ := HQ.out
  have b1 := fun w' (h : S w') c c' => bytes_eqT (c := c) (c' := c') w' (q1.below h) (v1.below h)
  have b2 := fun w' (h : S w') c c' => bytes_eqT (c := c) (c' := c') w' (q2.below h) (v2.below h)
  have b3 := fun w' (h : S w') c c' => bytes_eqT (c := c) (c' := c') w' (q3.below h) (v3.below h)
  have cc := fun w' (h : S w') => And.intro (((show Below Y.heap.size Y w' from h).cell (p := ⟨w.heap.size, 0, none⟩) HL.out.1).trans HC.out.1) (And.intro (((show Below Y.heap.size Y w' from h).cell (p := ⟨w.heap.size, 1, none⟩) HL.out.1).trans HC.out.2.1) (((show Below Y.heap.size Y w' from h).cell (p := ⟨w.heap.size, 98, none⟩) HL.out.1).trans HC.out.2.2))
  have kk := fun w' (h : S w') => And.intro (((show Below Y.heap.size Y w' from h).cell (p := ⟨p, o, none⟩) HL.out.2).trans HK.out.1) (And.intro (((show Below Y.heap.size Y w' from h).cell (p := ⟨p, o + 1, none⟩) HL.out.2).trans HK.out.2.1) (And.intro (((show Below Y.heap.size Y w' from h).cell (p := ⟨p, o + 2, none⟩) HL.out.2).trans HK.out.2.2.1) (And.intro (((show Below Y.heap.size Y w' from h).cell (p := ⟨p, o + 3, none⟩) HL.out.2).trans HK.out.2.2.2.1) (((show Below Y.heap.size Y w' from h).cell (p := ⟨p, o + 4, none⟩) HL.out.2).trans HK.out.2.2.2.2))))
  clear q1 q2 q3 v1 v2 v3
  have e1 : num / 256 * 256 + num % 256 = num := by omega
  have e2 : par / 256 * 256 + par % 256 = par := by omega
  have wn1 : IntKind.i64.wrap (num / 256) = num / 256 := wrap_small _ (by omega) (by omega)
  have wn2 : IntKind.i64.wrap (num / 256 * 256) = num / 256 * 256 := wrap_small _ (by omega) (by omega)
  have wn3 : IntKind.i64.wrap (num % 256) = num % 256 := wrap_small _ (by omega) (by omega)
  have wn4 : IntKind.i64.wrap (num) = num := wrap_small _ (by omega) (by omega)
  have wp1 : IntKind.i64.wrap (par / 256) = par / 256 := wrap_small _ (by omega) (by omega)
  have wp2 : IntKind.i64.wrap (par / 256 * 256) = par / 256 * 256 := wrap_small _ (by omega) (by omega)
  have wp3 : IntKind.i64.wrap (par % 256) = par % 256 := wrap_small _ (by omega) (by omega)
  have wp4 : IntKind.i64.wrap (par) = par := wrap_small _ (by omega) (by omega)
  have wg : IntKind.i64.wrap (pag) = pag := wrap_small _ (by omega) (by omega)
  refine wp_region_held (S := S) (by kernel_rfl) ?_
  change wpAnyH _ _ _ _ S _ _ _ Y.drew
  refine wpAnyH_take (i := 0) (oi := ?oi_1) (v := ?v_1) ?ho_1 ?h1_1 ?h2_1 ?h3_1 ?hq_1 (Or.inl ⟨?hw_1, ?hy_1⟩) ?hs_1 ?rest_1; (case h2_1 => kernel_rfl); (case h3_1 => kernel_rfl); (case ho_1 => (simp only [List.getElem?_toArray, List.getElem?_cons_zero, List.getElem?_cons_succ]; rfl)); (case h1_1 => kernel_rfl); (case hq_1 => exact fun _ _ _ h => h); (case hw_1 => rfl); (case hy_1 => (intro w' hSw; (try simp only [S] at hSw); go_simp; (try with_reducible rfl))); (case hs_1 => assumption); (try simp only [Act.put, List.setIfInBounds_toArray, List.set_cons_zero, List.set_cons_succ])
  refine wpAnyH_take (i := 1) (oi := ?oi_2) (v := ?v_2) ?ho_2 ?h1_2 ?h2_2 ?h3_2 ?hq_2 (Or.inl ⟨?hw_2, ?hy_2⟩) ?hs_2 ?rest_2; (case h2_2 => kernel_rfl); (case h3_2 => kernel_rfl); (case ho_2 => (simp only [List.getElem?_toArray, List.getElem?_cons_zero, List.getElem?_cons_succ]; rfl)); (case h1_2 => kernel_rfl); (case hq_2 => exact fun _ _ _ h => h); (case hw_2 => rfl); (case hy_2 => (intro w' hSw; (try simp only [S] at hSw); go_simp; (try with_reducible rfl))); (case hs_2 => assumption); (try simp only [Act.put, List.setIfInBounds_toArray, List.set_cons_zero, List.set_cons_succ])
  refine wpAnyH_take (i := 2) (oi := ?oi_3) (v := ?v_3) ?ho_3 ?h1_3 ?h2_3 ?h3_3 ?hq_3 (Or.inl ⟨?hw_3, ?hy_3⟩) ?hs_3 ?rest_3; (case h2_3 => kernel_rfl); (case h3_3 => kernel_rfl); (case ho_3 => (simp only [List.getElem?_toArray, List.getElem?_cons_zero, List.getElem?_cons_succ]; rfl)); (case h1_3 => kernel_rfl); (case hq_3 => exact fun _ _ _ h => h); (case hw_3 => rfl); (case hy_3 => (intro w' hSw; (try simp only [S] at hSw); go_simp; (try with_reducible rfl))); (case hs_3 => assumption); (try simp only [Act.put, List.setIfInBounds_toArray, List.set_cons_zero, List.set_cons_succ])
  refine wpAnyH_take (i := 3) (oi := ?oi_4) (v := ?v_4) ?ho_4 ?h1_4 ?h2_4 ?h3_4 ?hq_4 (Or.inl ⟨?hw_4, ?hy_4⟩) ?hs_4 ?rest_4; (case h2_4 => kernel_rfl); (case h3_4 => kernel_rfl); (case ho_4 => (simp only [List.getElem?_toArray, List.getElem?_cons_zero, List.getElem?_cons_succ]; rfl)); (case h1_4 => kernel_rfl); (case hq_4 => exact fun _ _ _ h => h); (case hw_4 => rfl); (case hy_4 => (intro w' hSw; (try simp only [S] at hSw); go_simp; (try with_reducible rfl))); (case hs_4 => assumption); (try simp only [Act.put, List.setIfInBounds_toArray, List.set_cons_zero, List.set_cons_succ])
  refine wpAnyH_take (i := 4) (oi := ?oi_5) (v := ?v_5) ?ho_5 ?h1_5 ?h2_5 ?h3_5 ?hq_5 (Or.inl ⟨?hw_5, ?hy_5⟩) ?hs_5 ?rest_5; (case h2_5 => kernel_rfl); (case h3_5 => kernel_rfl); (case ho_5 => (simp only [List.getElem?_toArray, List.getElem?_cons_zero, List.getElem?_cons_succ]; rfl)); (case h1_5 => kernel_rfl); (case hq_5 => exact fun _ _ _ h => h); (case hw_5 => rfl); (case hy_5 => (intro w' hSw; (try simp only [S] at hSw); go_simp; (try with_reducible rfl))); (case hs_5 => assumption); (try simp only [Act.put, List.setIfInBounds_toArray, List.set_cons_zero, List.set_cons_succ])
  refine wpAnyH_take (i := 5) (oi := ?oi_6) (v := ?v_6) ?ho_6 ?h1_6 ?h2_6 ?h3_6 ?hq_6 (Or.inl ⟨?hw_6, ?hy_6⟩) ?hs_6 ?rest_6; (case h2_6 => kernel_rfl); (case h3_6 => kernel_rfl); (case ho_6 => (simp only [List.getElem?_toArray, List.getElem?_cons_zero, List.getElem?_cons_succ]; rfl)); (case h1_6 => kernel_rfl); (case hq_6 => exact fun _ _ _ h => h); (case hw_6 => rfl); (case hy_6 => (intro w' hSw; (try simp only [S] at hSw); go_simp; (try with_reducible rfl))); (case hs_6 => assumption); (try simp only [Act.put, List.setIfInBounds_toArray, List.set_cons_zero, List.set_cons_succ])
  refine wpAnyH_take (i := 6) (oi := ?oi_56) (v := ?v_56) ?ho_56 ?h1_56 ?h2_56 ?h3_56 ?hq_56 (Or.inl ⟨?hw_56, ?hy_56⟩) ?hs_56 ?rest_56; (case h2_56 => kernel_rfl); (case h3_56 => kernel_rfl); (case ho_56 => (simp only [List.getElem?_toArray, List.getElem?_cons_zero, List.getElem?_cons_succ]; rfl)); (case h1_56 => kernel_rfl); (case hq_56 => exact fun _ _ _ h => h); (case hw_56 => rfl); (case hy_56 => (intro w' hSw; have hq := (kk w' hSw).1; go_simp; (try with_reducible rfl))); (case hs_56 => assumption); (try simp only [Act.put, List.setIfInBounds_toArray, List.set_cons_zero, List.set_cons_succ])
  refine wpAnyH_take (i := 7) (oi := ?oi_7) (v := ?v_7) ?ho_7 ?h1_7 ?h2_7 ?h3_7 ?hq_7 (Or.inl ⟨?hw_7, ?hy_7⟩) ?hs_7 ?rest_7; (case h2_7 => kernel_rfl); (case h3_7 => kernel_rfl); (case ho_7 => (simp only [List.getElem?_toArray, List.getElem?_cons_zero, List.getElem?_cons_succ]; rfl)); (case h1_7 => kernel_rfl); (case hq_7 => exact fun _ _ _ h => h); (case hw_7 => rfl); (case hy_7 => (intro w' hSw; (try simp only [S] at hSw); go_simp; (try with_reducible rfl))); (case hs_7 => assumption); (try simp only [Act.put, List.setIfInBounds_toArray, List.set_cons_zero, List.set_cons_succ])
  refine wpAnyH_take (i := 8) (oi := ?oi_8) (v := ?v_8) ?ho_8 ?h1_8 ?h2_8 ?h3_8 ?hq_8 (Or.inl ⟨?hw_8, ?hy_8⟩) ?hs_8 ?rest_8; (case h2_8 => kernel_rfl); (case h3_8 => kernel_rfl); (case ho_8 => (simp only [List.getElem?_toArray, List.getElem?_cons_zero, List.getElem?_cons_succ]; rfl)); (case h1_8 => kernel_rfl); (case hq_8 => exact fun _ _ _ h => h); (case hw_8 => rfl); (case hy_8 => (intro w' hSw; (try simp only [S] at hSw); go_simp; (try with_reducible rfl))); (case hs_8 => assumption); (try simp only [Act.put, List.setIfInBounds_toArray, List.set_cons_zero, List.set_cons_succ])
  refine wpAnyH_take (i := 9) (oi := ?oi_9) (v := ?v_9) ?ho_9 ?h1_9 ?h2_9 ?h3_9 ?hq_9 (Or.inl ⟨?hw_9, ?hy_9⟩) ?hs_9 ?rest_9; (case h2_9 => kernel_rfl); (case h3_9 => kernel_rfl); (case ho_9 => (simp only [List.getElem?_toArray, List.getElem?_cons_zero, List.getElem?_cons_succ]; rfl)); (case h1_9 => kernel_rfl); (case hq_9 => exact fun _ _ _ h => h); (case hw_9 => rfl); (case hy_9 => (intro w' hSw; (try simp only [S] at hSw); go_simp; (try with_reducible rfl))); (case hs_9 => assumption); (try simp only [Act.put, List.setIfInBounds_toArray, List.set_cons_zero, List.set_cons_succ])
  refine wpAnyH_take (i := 10) (oi := ?oi_10) (v := ?v_10) ?ho_10 ?h1_10 ?h2_10 ?h3_10 ?hq_10 (Or.inl ⟨?hw_10, ?hy_10⟩) ?hs_10 ?rest_10; (case h2_10 => kernel_rfl); (case h3_10 => kernel_rfl); (case ho_10 => (simp only [List.getElem?_toArray, List.getElem?_cons_zero, List.getElem?_cons_succ]; rfl)); (case h1_10 => kernel_rfl); (case hq_10 => exact fun _ _ _ h => h); (case hw_10 => rfl); (case hy_10 => (intro w' hSw; (try simp only [S] at hSw); go_simp; (try with_reducible rfl))); (case hs_10 => assumption); (try simp only [Act.put, List.setIfInBounds_toArray, List.set_cons_zero, List.set_cons_succ])
  refine wpAnyH_take (i := 11) (oi := ?oi_57) (v := ?v_57) ?ho_57 ?h1_57 ?h2_57 ?h3_57 ?hq_57 (Or.inl ⟨?hw_57, ?hy_57⟩) ?hs_57 ?rest_57; (case h2_57 => kernel_rfl); (case h3_57 => kernel_rfl); (case ho_57 => (simp only [List.getElem?_toArray, List.getElem?_cons_zero, List.getElem?_cons_succ]; rfl)); (case h1_57 => kernel_rfl); (case hq_57 => exact fun _ _ _ h => h); (case hw_57 => rfl); (case hy_57 => (intro w' hSw; have hq := (kk w' hSw).2.1; go_simp; (try with_reducible rfl))); (case hs_57 => assumption); (try simp only [Act.put, List.setIfInBounds_toArray, List.set_cons_zero, List.set_cons_succ])
  refine wpAnyH_take (i := 12) (oi := ?oi_11) (v := ?v_11) ?ho_11 ?h1_11 ?h2_11 ?h3_11 ?hq_11 (Or.inl ⟨?hw_11, ?hy_11⟩) ?hs_11 ?rest_11; (case h2_11 => kernel_rfl); (case h3_11 => kernel_rfl); (case ho_11 => (simp only [List.getElem?_toArray, List.getElem?_cons_zero, List.getElem?_cons_succ]; rfl)); (case h1_11 => kernel_rfl); (case hq_11 => exact fun _ _ _ h => h); (case hw_11 => rfl); (case hy_11 => (intro w' hSw; (try simp only [S] at hSw); go_simp; (try with_reducible rfl))); (case hs_11 => assumption); (try simp only [Act.put, List.setIfInBounds_toArray, List.set_cons_zero, List.set_cons_succ])
  refine wpAnyH_take (i := 13) (oi := ?oi_12) (v := ?v_12) ?ho_12 ?h1_12 ?h2_12 ?h3_12 ?hq_12 (Or.inl ⟨?hw_12, ?hy_12⟩) ?hs_12 ?rest_12; (case h2_12 => kernel_rfl); (case h3_12 => kernel_rfl); (case ho_12 => (simp only [List.getElem?_toArray, List.getElem?_cons_zero, List.getElem?_cons_succ]; rfl)); (case h1_12 => kernel_rfl); (case hq_12 => exact fun _ _ _ h => h); (case hw_12 => rfl); (case hy_12 => (intro w' hSw; (try simp only [S] at hSw); go_simp; (try with_reducible rfl))); (case hs_12 => assumption); (try simp only [Act.put, List.setIfInBounds_toArray, List.set_cons_zero, List.set_cons_succ])
  refine wpAnyH_take (i := 14) (oi := ?oi_13) (v := ?v_13) ?ho_13 ?h1_13 ?h2_13 ?h3_13 ?hq_13 (Or.inl ⟨?hw_13, ?hy_13⟩) ?hs_13 ?rest_13; (case h2_13 => kernel_rfl); (case h3_13 => kernel_rfl); (case ho_13 => (simp only [List.getElem?_toArray, List.getElem?_cons_zero, List.getElem?_cons_succ]; rfl)); (case h1_13 => kernel_rfl); (case hq_13 => exact fun _ _ _ h => h); (case hw_13 => rfl); (case hy_13 => (intro w' hSw; (try simp only [S] at hSw); go_simp; (try with_reducible rfl))); (case hs_13 => assumption); (try simp only [Act.put, List.setIfInBounds_toArray, List.set_cons_zero, List.set_cons_succ])
  refine wpAnyH_take (i := 15) (oi := ?oi_58) (v := ?v_58) ?ho_58 ?h1_58 ?h2_58 ?h3_58 ?hq_58 (Or.inl ⟨?hw_58, ?hy_58⟩) ?hs_58 ?rest_58; (case h2_58 => kernel_rfl); (case h3_58 => kernel_rfl); (case ho_58 => (simp only [List.getElem?_toArray, List.getElem?_cons_zero, List.getElem?_cons_succ]; rfl)); (case h1_58 => kernel_rfl); (case hq_58 => exact fun _ _ _ h => h); (case hw_58 => rfl); (case hy_58 => (intro w' hSw; have hq := (cc w' hSw).1; go_simp; (try with_reducible rfl))); (case hs_58 => assumption); (try simp only [Act.put, List.setIfInBounds_toArray, List.set_cons_zero, List.set_cons_succ])
  refine wpAnyH_take (i := 16) (oi := ?oi_14) (v := ?v_14) ?ho_14 ?h1_14 ?h2_14 ?h3_14 ?hq_14 (Or.inl ⟨?hw_14, ?hy_14⟩) ?hs_14 ?rest_14; (case h2_14 => kernel_rfl); (case h3_14 => kernel_rfl); (case ho_14 => (simp only [List.getElem?_toArray, List.getElem?_cons_zero, List.getElem?_cons_succ]; rfl)); (case h1_14 => kernel_rfl); (case hq_14 => exact fun _ _ _ h => h); (case hw_14 => rfl); (case hy_14 => (intro w' hSw; (try simp only [S] at hSw); go_simp; (try with_reducible rfl))); (case hs_14 => assumption); (try simp only [Act.put, List.setIfInBounds_toArray, List.set_cons_zero, List.set_cons_succ])
  refine wpAnyH_take (i := 17) (oi := ?oi_15) (v := ?v_15) ?ho_15 ?h1_15 ?h2_15 ?h3_15 ?hq_15 (Or.inl ⟨?hw_15, ?hy_15⟩) ?hs_15 ?rest_15; (case h2_15 => kernel_rfl); (case h3_15 => kernel_rfl); (case ho_15 => (simp only [List.getElem?_toArray, List.getElem?_cons_zero, List.getElem?_cons_succ]; rfl)); (case h1_15 => kernel_rfl); (case hq_15 => exact fun _ _ _ h => h); (case hw_15 => rfl); (case hy_15 => (intro w' hSw; (try simp only [S] at hSw); go_simp; (try with_reducible rfl))); (case hs_15 => assumption); (try simp only [Act.put, List.setIfInBounds_toArray, List.set_cons_zero, List.set_cons_succ])
  refine wpAnyH_take (i := 18) (oi := ?oi_16) (v := ?v_16) ?ho_16 ?h1_16 ?h2_16 ?h3_16 ?hq_16 (Or.inl ⟨?hw_16, ?hy_16⟩) ?hs_16 ?rest_16; (case h2_16 => kernel_rfl); (case h3_16 => kernel_rfl); (case ho_16 => (simp only [List.getElem?_toArray, List.getElem?_cons_zero, List.getElem?_cons_succ]; rfl)); (case h1_16 => kernel_rfl); (case hq_16 => exact fun _ _ _ h => h); (case hw_16 => rfl); (case hy_16 => (intro w' hSw; (try simp only [S] at hSw); go_simp; (try with_reducible rfl))); (case hs_16 => assumption); (try simp only [Act.put, List.setIfInBounds_toArray, List.set_cons_zero, List.set_cons_succ])
  refine wpAnyH_take (i := 19) (oi := ?oi_17) (v := ?v_17) ?ho_17 ?h1_17 ?h2_17 ?h3_17 ?hq_17 (Or.inl ⟨?hw_17, ?hy_17⟩) ?hs_17 ?rest_17; (case h2_17 => kernel_rfl); (case h3_17 => kernel_rfl); (case ho_17 => (simp only [List.getElem?_toArray, List.getElem?_cons_zero, List.getElem?_cons_succ]; rfl)); (case h1_17 => kernel_rfl); (case hq_17 => exact fun _ _ _ h => h); (case hw_17 => rfl); (case hy_17 => (intro w' hSw; (try simp only [S] at hSw); go_simp; (try with_reducible rfl))); (case hs_17 => assumption); (try simp only [Act.put, List.setIfInBounds_toArray, List.set_cons_zero, List.set_cons_succ])
  refine wpAnyH_take (i := 20) (oi := ?oi_18) (v := ?v_18) ?ho_18 ?h1_18 ?h2_18 ?h3_18 ?hq_18 (Or.inl ⟨?hw_18, ?hy_18⟩) ?hs_18 ?rest_18; (case h2_18 => kernel_rfl); (case h3_18 => kernel_rfl); (case ho_18 => (simp only [List.getElem?_toArray, List.getElem?_cons_zero, List.getElem?_cons_succ]; rfl)); (case h1_18 => kernel_rfl); (case hq_18 => exact fun _ _ _ h => h); (case hw_18 => rfl); (case hy_18 => (intro w' hSw; (try simp only [S] at hSw); go_simp; (try with_reducible rfl))); (case hs_18 => assumption); (try simp only [Act.put, List.setIfInBounds_toArray, List.set_cons_zero, List.set_cons_succ])
  refine wpAnyH_take (i := 21) (oi := ?oi_59) (v := ?v_59) ?ho_59 ?h1_59 ?h2_59 ?h3_59 ?hq_59 (Or.inl ⟨?hw_59, ?hy_59⟩) ?hs_59 ?rest_59; (case h2_59 => kernel_rfl); (case h3_59 => kernel_rfl); (case ho_59 => (simp only [List.getElem?_toArray, List.getElem?_cons_zero, List.getElem?_cons_succ]; rfl)); (case h1_59 => kernel_rfl); (case hq_59 => exact fun _ _ _ h => h); (case hw_59 => rfl); (case hy_59 => (intro w' hSw; have hq := (kk w' hSw).2.2.1; go_simp; (try with_reducible rfl))); (case hs_59 => assumption); (try simp only [Act.put, List.setIfInBounds_toArray, List.set_cons_zero, List.set_cons_succ])
  refine wpAnyH_take (i := 22) (oi := ?oi_19) (v := ?v_19) ?ho_19 ?h1_19 ?h2_19 ?h3_19 ?hq_19 (Or.inl ⟨?hw_19, ?hy_19⟩) ?hs_19 ?rest_19; (case h2_19 => kernel_rfl); (case h3_19 => kernel_rfl); (case ho_19 => (simp only [List.getElem?_toArray, List.getElem?_cons_zero, List.getElem?_cons_succ]; rfl)); (case h1_19 => kernel_rfl); (case hq_19 => exact fun _ _ _ h => h); (case hw_19 => rfl); (case hy_19 => (intro w' hSw; (try simp only [S] at hSw); go_simp; (try with_reducible rfl))); (case hs_19 => assumption); (try simp only [Act.put, List.setIfInBounds_toArray, List.set_cons_zero, List.set_cons_succ])
  refine wpAnyH_take (i := 23) (oi := ?oi_20) (v := ?v_20) ?ho_20 ?h1_20 ?h2_20 ?h3_20 ?hq_20 (Or.inl ⟨?hw_20, ?hy_20⟩) ?hs_20 ?rest_20; (case h2_20 => kernel_rfl); (case h3_20 => kernel_rfl); (case ho_20 => (simp only [List.getElem?_toArray, List.getElem?_cons_zero, List.getElem?_cons_succ]; rfl)); (case h1_20 => kernel_rfl); (case hq_20 => exact fun _ _ _ h => h); (case hw_20 => rfl); (case hy_20 => (intro w' hSw; (try simp only [S] at hSw); go_simp; (try with_reducible rfl))); (case hs_20 => assumption); (try simp only [Act.put, List.setIfInBounds_toArray, List.set_cons_zero, List.set_cons_succ])
  refine wpAnyH_take (i := 24) (oi := ?oi_21) (v := ?v_21) ?ho_21 ?h1_21 ?h2_21 ?h3_21 ?hq_21 (Or.inl ⟨?hw_21, ?hy_21⟩) ?hs_21 ?rest_21; (case h2_21 => kernel_rfl); (case h3_21 => kernel_rfl); (case ho_21 => (simp only [List.getElem?_toArray, List.getElem?_cons_zero, List.getElem?_cons_succ]; rfl)); (case h1_21 => kernel_rfl); (case hq_21 => exact fun _ _ _ h => h); (case hw_21 => rfl); (case hy_21 => (intro w' hSw; (try simp only [S] at hSw); go_simp; (try with_reducible rfl))); (case hs_21 => assumption); (try simp only [Act.put, List.setIfInBounds_toArray, List.set_cons_zero, List.set_cons_succ])
  refine wpAnyH_take (i := 25) (oi := ?oi_22) (v := ?v_22) ?ho_22 ?h1_22 ?h2_22 ?h3_22 ?hq_22 (Or.inl ⟨?hw_22, ?hy_22⟩) ?hs_22 ?rest_22; (case h2_22 => kernel_rfl); (case h3_22 => kernel_rfl); (case ho_22 => (simp only [List.getElem?_toArray, List.getElem?_cons_zero, List.getElem?_cons_succ]; rfl)); (case h1_22 => kernel_rfl); (case hq_22 => exact fun _ _ _ h => h); (case hw_22 => rfl); (case hy_22 => (intro w' hSw; (try simp only [S] at hSw); go_simp; (try with_reducible rfl))); (case hs_22 => assumption); (try simp only [Act.put, List.setIfInBounds_toArray, List.set_cons_zero, List.set_cons_succ])
  refine wpAnyH_take (i := 26) (oi := ?oi_60) (v := ?v_60) ?ho_60 ?h1_60 ?h2_60 ?h3_60 ?hq_60 (Or.inl ⟨?hw_60, ?hy_60⟩) ?hs_60 ?rest_60; (case h2_60 => kernel_rfl); (case h3_60 => kernel_rfl); (case ho_60 => (simp only [List.getElem?_toArray, List.getElem?_cons_zero, List.getElem?_cons_succ]; rfl)); (case h1_60 => kernel_rfl); (case hq_60 => exact fun _ _ _ h => h); (case hw_60 => rfl); (case hy_60 => (intro w' hSw; have hq := (kk w' hSw).2.2.2.1; go_simp; (try with_reducible rfl))); (case hs_60 => assumption); (try simp only [Act.put, List.setIfInBounds_toArray, List.set_cons_zero, List.set_cons_succ])
  refine wpAnyH_take (i := 27) (oi := ?oi_23) (v := ?v_23) ?ho_23 ?h1_23 ?h2_23 ?h3_23 ?hq_23 (Or.inl ⟨?hw_23, ?hy_23⟩) ?hs_23 ?rest_23; (case h2_23 => kernel_rfl); (case h3_23 => kernel_rfl); (case ho_23 => (simp only [List.getElem?_toArray, List.getElem?_cons_zero, List.getElem?_cons_succ]; rfl)); (case h1_23 => kernel_rfl); (case hq_23 => exact fun _ _ _ h => h); (case hw_23 => rfl); (case hy_23 => (intro w' hSw; (try simp only [S] at hSw); go_simp; (try with_reducible rfl))); (case hs_23 => assumption); (try simp only [Act.put, List.setIfInBounds_toArray, List.set_cons_zero, List.set_cons_succ])
  refine wpAnyH_take (i := 28) (oi := ?oi_24) (v := ?v_24) ?ho_24 ?h1_24 ?h2_24 ?h3_24 ?hq_24 (Or.inl ⟨?hw_24, ?hy_24⟩) ?hs_24 ?rest_24; (case h2_24 => kernel_rfl); (case h3_24 => kernel_rfl); (case ho_24 => (simp only [List.getElem?_toArray, List.getElem?_cons_zero, List.getElem?_cons_succ]; rfl)); (case h1_24 => kernel_rfl); (case hq_24 => exact fun _ _ _ h => h); (case hw_24 => rfl); (case hy_24 => (intro w' hSw; (try simp only [S] at hSw); go_simp; (try with_reducible rfl))); (case hs_24 => assumption); (try simp only [Act.put, List.setIfInBounds_toArray, List.set_cons_zero, List.set_cons_succ])
  refine wpAnyH_take (i := 29) (oi := ?oi_25) (v := ?v_25) ?ho_25 ?h1_25 ?h2_25 ?h3_25 ?hq_25 (Or.inl ⟨?hw_25, ?hy_25⟩) ?hs_25 ?rest_25; (case h2_25 => kernel_rfl); (case h3_25 => kernel_rfl); (case ho_25 => (simp only [List.getElem?_toArray, List.getElem?_cons_zero, List.getElem?_cons_succ]; rfl)); (case h1_25 => kernel_rfl); (case hq_25 => exact fun _ _ _ h => h); (case hw_25 => rfl); (case hy_25 => (intro w' hSw; (try simp only [S] at hSw); go_simp; (try with_reducible rfl))); (case hs_25 => assumption); (try simp only [Act.put, List.setIfInBounds_toArray, List.set_cons_zero, List.set_cons_succ])
  refine wpAnyH_take (i := 30) (oi := ?oi_61) (v := ?v_61) ?ho_61 ?h1_61 ?h2_61 ?h3_61 ?hq_61 (Or.inl ⟨?hw_61, ?hy_61⟩) ?hs_61 ?rest_61; (case h2_61 => kernel_rfl); (case h3_61 => kernel_rfl); (case ho_61 => (simp only [List.getElem?_toArray, List.getElem?_cons_zero, List.getElem?_cons_succ]; rfl)); (case h1_61 => kernel_rfl); (case hq_61 => exact fun _ _ _ h => h); (case hw_61 => rfl); (case hy_61 => (intro w' hSw; have hq := (cc w' hSw).2.1; go_simp; (try with_reducible rfl))); (case hs_61 => assumption); (try simp only [Act.put, List.setIfInBounds_toArray, List.set_cons_zero, List.set_cons_succ])
  refine wpAnyH_take (i := 31) (oi := ?oi_26) (v := ?v_26) ?ho_26 ?h1_26 ?h2_26 ?h3_26 ?hq_26 (Or.inl ⟨?hw_26, ?hy_26⟩) ?hs_26 ?rest_26; (case h2_26 => kernel_rfl); (case h3_26 => kernel_rfl); (case ho_26 => (simp only [List.getElem?_toArray, List.getElem?_cons_zero, List.getElem?_cons_succ]; rfl)); (case h1_26 => kernel_rfl); (case hq_26 => exact fun _ _ _ h => h); (case hw_26 => rfl); (case hy_26 => (intro w' hSw; (try simp only [S] at hSw); go_simp; (try with_reducible rfl))); (case hs_26 => assumption); (try simp only [Act.put, List.setIfInBounds_toArray, List.set_cons_zero, List.set_cons_succ])
  refine wpAnyH_take (i := 32) (oi := ?oi_27) (v := ?v_27) ?ho_27 ?h1_27 ?h2_27 ?h3_27 ?hq_27 (Or.inl ⟨?hw_27, ?hy_27⟩) ?hs_27 ?rest_27; (case h2_27 => kernel_rfl); (case h3_27 => kernel_rfl); (case ho_27 => (simp only [List.getElem?_toArray, List.getElem?_cons_zero, List.getElem?_cons_succ]; rfl)); (case h1_27 => kernel_rfl); (case hq_27 => exact fun _ _ _ h => h); (case hw_27 => rfl); (case hy_27 => (intro w' hSw; (try simp only [S] at hSw); go_simp; (try with_reducible rfl))); (case hs_27 => assumption); (try simp only [Act.put, List.setIfInBounds_toArray, List.set_cons_zero, List.set_cons_succ])
  refine wpAnyH_take (i := 33) (oi := ?oi_28) (v := ?v_28) ?ho_28 ?h1_28 ?h2_28 ?h3_28 ?hq_28 (Or.inl ⟨?hw_28, ?hy_28⟩) ?hs_28 ?rest_28; (case h2_28 => kernel_rfl); (case h3_28 => kernel_rfl); (case ho_28 => (simp only [List.getElem?_toArray, List.getElem?_cons_zero, List.getElem?_cons_succ]; rfl)); (case h1_28 => kernel_rfl); (case hq_28 => exact fun _ _ _ h => h); (case hw_28 => rfl); (case hy_28 => (intro w' hSw; (try simp only [S] at hSw); go_simp; (try with_reducible rfl))); (case hs_28 => assumption); (try simp only [Act.put, List.setIfInBounds_toArray, List.set_cons_zero, List.set_cons_succ])
  refine wpAnyH_take (i := 34) (oi := ?oi_29) (v := ?v_29) ?ho_29 ?h1_29 ?h2_29 ?h3_29 ?hq_29 (Or.inl ⟨?hw_29, ?hy_29⟩) ?hs_29 ?rest_29; (case h2_29 => kernel_rfl); (case h3_29 => kernel_rfl); (case ho_29 => (simp only [List.getElem?_toArray, List.getElem?_cons_zero, List.getElem?_cons_succ]; rfl)); (case h1_29 => kernel_rfl); (case hq_29 => exact fun _ _ _ h => h); (case hw_29 => rfl); (case hy_29 => (intro w' hSw; (try simp only [S] at hSw); go_simp; (try with_reducible rfl))); (case hs_29 => assumption); (try simp only [Act.put, List.setIfInBounds_toArray, List.set_cons_zero, List.set_cons_succ])
  refine wpAnyH_take (i := 35) (oi := ?oi_30) (v := ?v_30) ?ho_30 ?h1_30 ?h2_30 ?h3_30 ?hq_30 (Or.inl ⟨?hw_30, ?hy_30⟩) ?hs_30 ?rest_30; (case h2_30 => kernel_rfl); (case h3_30 => kernel_rfl); (case ho_30 => (simp only [List.getElem?_toArray, List.getElem?_cons_zero, List.getElem?_cons_succ]; rfl)); (case h1_30 => kernel_rfl); (case hq_30 => exact fun _ _ _ h => h); (case hw_30 => rfl); (case hy_30 => (intro w' hSw; (try simp only [S] at hSw); go_simp; (try with_reducible rfl))); (case hs_30 => assumption); (try simp only [Act.put, List.setIfInBounds_toArray, List.set_cons_zero, List.set_cons_succ])
  refine wpAnyH_take (i := 36) (oi := ?oi_62) (v := ?v_62) ?ho_62 ?h1_62 ?h2_62 ?h3_62 ?hq_62 (Or.inl ⟨?hw_62, ?hy_62⟩) ?hs_62 ?rest_62; (case h2_62 => kernel_rfl); (case h3_62 => kernel_rfl); (case ho_62 => (simp only [List.getElem?_toArray, List.getElem?_cons_zero, List.getElem?_cons_succ]; rfl)); (case h1_62 => kernel_rfl); (case hq_62 => exact fun _ _ _ h => h); (case hw_62 => rfl); (case hy_62 => (intro w' hSw; have hq := (kk w' hSw).2.2.2.2; go_simp; (try with_reducible rfl))); (case hs_62 => assumption); (try simp only [Act.put, List.setIfInBounds_toArray, List.set_cons_zero, List.set_cons_succ])
  refine wpAnyH_take (i := 37) (oi := ?oi_31) (v := ?v_31) ?ho_31 ?h1_31 ?h2_31 ?h3_31 ?hq_31 (Or.inl ⟨?hw_31, ?hy_31⟩) ?hs_31 ?rest_31; (case h2_31 => kernel_rfl); (case h3_31 => kernel_rfl); (case ho_31 => (simp only [List.getElem?_toArray, List.getElem?_cons_zero, List.getElem?_cons_succ]; rfl)); (case h1_31 => kernel_rfl); (case hq_31 => exact fun _ _ _ h => h); (case hw_31 => rfl); (case hy_31 => (intro w' hSw; (try simp only [S] at hSw); go_simp; (try with_reducible rfl))); (case hs_31 => assumption); (try simp only [Act.put, List.setIfInBounds_toArray, List.set_cons_zero, List.set_cons_succ])
  refine wpAnyH_take (i := 38) (oi := ?oi_32) (v := ?v_32) ?ho_32 ?h1_32 ?h2_32 ?h3_32 ?hq_32 (Or.inl ⟨?hw_32, ?hy_32⟩) ?hs_32 ?rest_32; (case h2_32 => kernel_rfl); (case h3_32 => kernel_rfl); (case ho_32 => (simp only [List.getElem?_toArray, List.getElem?_cons_zero, List.getElem?_cons_succ]; rfl)); (case h1_32 => kernel_rfl); (case hq_32 => exact fun _ _ _ h => h); (case hw_32 => rfl); (case hy_32 => (intro w' hSw; (try simp only [S] at hSw); go_simp; (try with_reducible rfl))); (case hs_32 => assumption); (try simp only [Act.put, List.setIfInBounds_toArray, List.set_cons_zero, List.set_cons_succ])
  refine wpAnyH_take (i := 39) (oi := ?oi_63) (v := ?v_63) ?ho_63 ?h1_63 ?h2_63 ?h3_63 ?hq_63 (Or.inl ⟨?hw_63, ?hy_63⟩) ?hs_63 ?rest_63; (case h2_63 => kernel_rfl); (case h3_63 => kernel_rfl); (case ho_63 => (simp only [List.getElem?_toArray, List.getElem?_cons_zero, List.getElem?_cons_succ]; rfl)); (case h1_63 => kernel_rfl); (case hq_63 => exact fun _ _ _ h => h); (case hw_63 => rfl); (case hy_63 => (intro w' hSw; have hq := (cc w' hSw).2.2; go_simp; (try with_reducible rfl))); (case hs_63 => assumption); (try simp only [Act.put, List.setIfInBounds_toArray, List.set_cons_zero, List.set_cons_succ])
  refine wpAnyH_take (i := 40) (oi := ?oi_33) (v := ?v_33) ?ho_33 ?h1_33 ?h2_33 ?h3_33 ?hq_33 (Or.inl ⟨?hw_33, ?hy_33⟩) ?hs_33 ?rest_33; (case h2_33 => kernel_rfl); (case h3_33 => kernel_rfl); (case ho_33 => (simp only [List.getElem?_toArray, List.getElem?_cons_zero, List.getElem?_cons_succ]; rfl)); (case h1_33 => kernel_rfl); (case hq_33 => exact fun _ _ _ h => h); (case hw_33 => rfl); (case hy_33 => (intro w' hSw; (try simp only [S] at hSw); go_simp; (try with_reducible rfl))); (case hs_33 => assumption); (try simp only [Act.put, List.setIfInBounds_toArray, List.set_cons_zero, List.set_cons_succ])
  refine wpAnyH_take (i := 41) (oi := ?oi_34) (v := ?v_34) ?ho_34 ?h1_34 ?h2_34 ?h3_34 ?hq_34 (Or.inl ⟨?hw_34, ?hy_34⟩) ?hs_34 ?rest_34; (case h2_34 => kernel_rfl); (case h3_34 => kernel_rfl); (case ho_34 => (simp only [List.getElem?_toArray, List.getElem?_cons_zero, List.getElem?_cons_succ]; rfl)); (case h1_34 => kernel_rfl); (case hq_34 => exact fun _ _ _ h => h); (case hw_34 => rfl); (case hy_34 => (intro w' hSw; (try simp only [S] at hSw); go_simp; (try with_reducible rfl))); (case hs_34 => assumption); (try simp only [Act.put, List.setIfInBounds_toArray, List.set_cons_zero, List.set_cons_succ])
  refine wpAnyH_take (i := 42) (oi := ?oi_35) (v := ?v_35) ?ho_35 ?h1_35 ?h2_35 ?h3_35 ?hq_35 (Or.inl ⟨?hw_35, ?hy_35⟩) ?hs_35 ?rest_35; (case h2_35 => kernel_rfl); (case h3_35 => kernel_rfl); (case ho_35 => (simp only [List.getElem?_toArray, List.getElem?_cons_zero, List.getElem?_cons_succ]; rfl)); (case h1_35 => kernel_rfl); (case hq_35 => exact fun _ _ _ h => h); (case hw_35 => rfl); (case hy_35 => (intro w' hSw; (try simp only [S] at hSw); go_simp; (try with_reducible rfl))); (case hs_35 => assumption); (try simp only [Act.put, List.setIfInBounds_toArray, List.set_cons_zero, List.set_cons_succ])
  refine wpAnyH_take (i := 43) (oi := ?oi_36) (v := ?v_36) ?ho_36 ?h1_36 ?h2_36 ?h3_36 ?hq_36 (Or.inl ⟨?hw_36, ?hy_36⟩) ?hs_36 ?rest_36; (case h2_36 => kernel_rfl); (case h3_36 => kernel_rfl); (case ho_36 => (simp only [List.getElem?_toArray, List.getElem?_cons_zero, List.getElem?_cons_succ]; rfl)); (case h1_36 => kernel_rfl); (case hq_36 => exact fun _ _ _ h => h); (case hw_36 => rfl); (case hy_36 => (intro w' hSw; (try simp only [S] at hSw); go_simp; (try with_reducible rfl))); (case hs_36 => assumption); (try simp only [Act.put, List.setIfInBounds_toArray, List.set_cons_zero, List.set_cons_succ])
  refine wpAnyH_take (i := 44) (oi := ?oi_37) (v := ?v_37) ?ho_37 ?h1_37 ?h2_37 ?h3_37 ?hq_37 (Or.inl ⟨?hw_37, ?hy_37⟩) ?hs_37 ?rest_37; (case h2_37 => kernel_rfl); (case h3_37 => kernel_rfl); (case ho_37 => (simp only [List.getElem?_toArray, List.getElem?_cons_zero, List.getElem?_cons_succ]; rfl)); (case h1_37 => kernel_rfl); (case hq_37 => exact fun _ _ _ h => h); (case hw_37 => rfl); (case hy_37 => (intro w' hSw; (try simp only [S] at hSw); go_simp; (try with_reducible rfl))); (case hs_37 => assumption); (try simp only [Act.put, List.setIfInBounds_toArray, List.set_cons_zero, List.set_cons_succ])
  refine wpAnyH_take (i := 45) (oi := ?oi_38) (v := ?v_38) ?ho_38 ?h1_38 ?h2_38 ?h3_38 ?hq_38 (Or.inl ⟨?hw_38, ?hy_38⟩) ?hs_38 ?rest_38; (case h2_38 => kernel_rfl); (case h3_38 => kernel_rfl); (case ho_38 => (simp only [List.getElem?_toArray, List.getElem?_cons_zero, List.getElem?_cons_succ]; rfl)); (case h1_38 => kernel_rfl); (case hq_38 => exact fun _ _ _ h => h); (case hw_38 => rfl); (case hy_38 => (intro w' hSw; (try simp only [S] at hSw); go_simp; (try with_reducible rfl))); (case hs_38 => assumption); (try simp only [Act.put, List.setIfInBounds_toArray, List.set_cons_zero, List.set_cons_succ])
  refine wpAnyH_take (i := 46) (oi := ?oi_39) (v := ?v_39) ?ho_39 ?h1_39 ?h2_39 ?h3_39 ?hq_39 (Or.inl ⟨?hw_39, ?hy_39⟩) ?hs_39 ?rest_39; (case h2_39 => kernel_rfl); (case h3_39 => kernel_rfl); (case ho_39 => (simp only [List.getElem?_toArray, List.getElem?_cons_zero, List.getElem?_cons_succ]; rfl)); (case h1_39 => kernel_rfl); (case hq_39 => exact fun _ _ _ h => h); (case hw_39 => rfl); (case hy_39 => (intro w' hSw; (try simp only [S] at hSw); go_simp; (try with_reducible rfl))); (case hs_39 => assumption); (try simp only [Act.put, List.setIfInBounds_toArray, List.set_cons_zero, List.set_cons_succ])
  refine wpAnyH_ready (rs := [47]) (by kernel_rfl) (by simp) (AllReadyH.cons (o := ?oo47_64) ?hoo47_64 (fun K hK => ?steponly64) AllReadyH.nil); (case hoo47_64 => (simp only [List.getElem?_toArray, List.getElem?_cons_zero, List.getElem?_cons_succ]; rfl))
  go_simp
  refine Calls.mono (b1 _ hS0 _ _) ?_
  rintro e w47 ⟨rfl, rfl⟩
  refine hK.out _ _ hS0 (fun _ => ?_)
  clear hK K
  (try simp only [Act.put, List.setIfInBounds_toArray, List.set_cons_zero, List.set_cons_succ])
  refine wpAnyH_take (i := 48) (oi := ?oi_40) (v := ?v_40) ?ho_40 ?h1_40 ?h2_40 ?h3_40 ?hq_40 (Or.inl ⟨?hw_40, ?hy_40⟩) ?hs_40 ?rest_40; (case h2_40 => kernel_rfl); (case h3_40 => kernel_rfl); (case ho_40 => (simp only [List.getElem?_toArray, List.getElem?_cons_zero, List.getElem?_cons_succ]; rfl)); (case h1_40 => kernel_rfl); (case hq_40 => exact fun _ _ _ h => h); (case hw_40 => rfl); (case hy_40 => (intro w' hSw; (try simp only [S] at hSw); go_simp; (try with_reducible rfl))); (case hs_40 => assumption); (try simp only [Act.put, List.setIfInBounds_toArray, List.set_cons_zero, List.set_cons_succ])
  refine wpAnyH_take (i := 49) (oi := ?oi_41) (v := ?v_41) ?ho_41 ?h1_41 ?h2_41 ?h3_41 ?hq_41 (Or.inl ⟨?hw_41, ?hy_41⟩) ?hs_41 ?rest_41; (case h2_41 => kernel_rfl); (case h3_41 => kernel_rfl); (case ho_41 => (simp only [List.getElem?_toArray, List.getElem?_cons_zero, List.getElem?_cons_succ]; rfl)); (case h1_41 => kernel_rfl); (case hq_41 => exact fun _ _ _ h => h); (case hw_41 => rfl); (case hy_41 => (intro w' hSw; (try simp only [S] at hSw); go_simp; (try with_reducible rfl))); (case hs_41 => assumption); (try simp only [Act.put, List.setIfInBounds_toArray, List.set_cons_zero, List.set_cons_succ])
  refine wpAnyH_take (i := 50) (oi := ?oi_42) (v := ?v_42) ?ho_42 ?h1_42 ?h2_42 ?h3_42 ?hq_42 (Or.inl ⟨?hw_42, ?hy_42⟩) ?hs_42 ?rest_42; (case h2_42 => kernel_rfl); (case h3_42 => kernel_rfl); (case ho_42 => (simp only [List.getElem?_toArray, List.getElem?_cons_zero, List.getElem?_cons_succ]; rfl)); (case h1_42 => kernel_rfl); (case hq_42 => exact fun _ _ _ h => h); (case hw_42 => rfl); (case hy_42 => (intro w' hSw; (try simp only [S] at hSw); go_simp; (try with_reducible rfl))); (case hs_42 => assumption); (try simp only [Act.put, List.setIfInBounds_toArray, List.set_cons_zero, List.set_cons_succ])
  refine wpAnyH_take (i := 51) (oi := ?oi_43) (v := ?v_43) ?ho_43 ?h1_43 ?h2_43 ?h3_43 ?hq_43 (Or.inl ⟨?hw_43, ?hy_43⟩) ?hs_43 ?rest_43; (case h2_43 => kernel_rfl); (case h3_43 => kernel_rfl); (case ho_43 => (simp only [List.getElem?_toArray, List.getElem?_cons_zero, List.getElem?_cons_succ]; rfl)); (case h1_43 => kernel_rfl); (case hq_43 => exact fun _ _ _ h => h); (case hw_43 => rfl); (case hy_43 => (intro w' hSw; (try simp only [S] at hSw); go_simp; (try with_reducible rfl))); (case hs_43 => assumption); (try simp only [Act.put, List.setIfInBounds_toArray, List.set_cons_zero, List.set_cons_succ])
  refine wpAnyH_take (i := 52) (oi := ?oi_44) (v := ?v_44) ?ho_44 ?h1_44 ?h2_44 ?h3_44 ?hq_44 (Or.inl ⟨?hw_44, ?hy_44⟩) ?hs_44 ?rest_44; (case h2_44 => kernel_rfl); (case h3_44 => kernel_rfl); (case ho_44 => (simp only [List.getElem?_toArray, List.getElem?_cons_zero, List.getElem?_cons_succ]; rfl)); (case h1_44 => kernel_rfl); (case hq_44 => exact fun _ _ _ h => h); (case hw_44 => rfl); (case hy_44 => (intro w' hSw; (try simp only [S] at hSw); go_simp; (try with_reducible rfl))); (case hs_44 => assumption); (try simp only [Act.put, List.setIfInBounds_toArray, List.set_cons_zero, List.set_cons_succ])
  refine wpAnyH_take (i := 53) (oi := ?oi_45) (v := ?v_45) ?ho_45 ?h1_45 ?h2_45 ?h3_45 ?hq_45 (Or.inl ⟨?hw_45, ?hy_45⟩) ?hs_45 ?rest_45; (case h2_45 => kernel_rfl); (case h3_45 => kernel_rfl); (case ho_45 => (simp only [List.getElem?_toArray, List.getElem?_cons_zero, List.getElem?_cons_succ]; rfl)); (case h1_45 => kernel_rfl); (case hq_45 => exact fun _ _ _ h => h); (case hw_45 => rfl); (case hy_45 => (intro w' hSw; (try simp only [S] at hSw); go_simp; (try with_reducible rfl))); (case hs_45 => assumption); (try simp only [Act.put, List.setIfInBounds_toArray, List.set_cons_zero, List.set_cons_succ])
  refine wpAnyH_ready (rs := [54]) (by kernel_rfl) (by simp) (AllReadyH.cons (o := ?oo54_65) ?hoo54_65 (fun K hK => ?steponly65) AllReadyH.nil); (case hoo54_65 => (simp only [List.getElem?_toArray, List.getElem?_cons_zero, List.getElem?_cons_succ]; rfl))
  go_simp
  refine Calls.mono (b2 _ hS0 _ _) ?_
  rintro e w54 ⟨rfl, rfl⟩
  refine hK.out _ _ hS0 (fun _ => ?_)
  clear hK K
  (try simp only [Act.put, List.setIfInBounds_toArray, List.set_cons_zero, List.set_cons_succ])
  refine wpAnyH_take (i := 55) (oi := ?oi_46) (v := ?v_46) ?ho_46 ?h1_46 ?h2_46 ?h3_46 ?hq_46 (Or.inl ⟨?hw_46, ?hy_46⟩) ?hs_46 ?rest_46; (case h2_46 => kernel_rfl); (case h3_46 => kernel_rfl); (case ho_46 => (simp only [List.getElem?_toArray, List.getElem?_cons_zero, List.getElem?_cons_succ]; rfl)); (case h1_46 => kernel_rfl); (case hq_46 => exact fun _ _ _ h => h); (case hw_46 => rfl); (case hy_46 => (intro w' hSw; (try simp only [S] at hSw); go_simp; (try with_reducible rfl))); (case hs_46 => assumption); (try simp only [Act.put, List.setIfInBounds_toArray, List.set_cons_zero, List.set_cons_succ])
  refine wpAnyH_take (i := 56) (oi := ?oi_47) (v := ?v_47) ?ho_47 ?h1_47 ?h2_47 ?h3_47 ?hq_47 (Or.inl ⟨?hw_47, ?hy_47⟩) ?hs_47 ?rest_47; (case h2_47 => kernel_rfl); (case h3_47 => kernel_rfl); (case ho_47 => (simp only [List.getElem?_toArray, List.getElem?_cons_zero, List.getElem?_cons_succ]; rfl)); (case h1_47 => kernel_rfl); (case hq_47 => exact fun _ _ _ h => h); (case hw_47 => rfl); (case hy_47 => (intro w' hSw; (try simp only [S] at hSw); go_simp; (try with_reducible rfl))); (case hs_47 => assumption); (try simp only [Act.put, List.setIfInBounds_toArray, List.set_cons_zero, List.set_cons_succ])
  refine wpAnyH_take (i := 57) (oi := ?oi_48) (v := ?v_48) ?ho_48 ?h1_48 ?h2_48 ?h3_48 ?hq_48 (Or.inl ⟨?hw_48, ?hy_48⟩) ?hs_48 ?rest_48; (case h2_48 => kernel_rfl); (case h3_48 => kernel_rfl); (case ho_48 => (simp only [List.getElem?_toArray, List.getElem?_cons_zero, List.getElem?_cons_succ]; rfl)); (case h1_48 => kernel_rfl); (case hq_48 => exact fun _ _ _ h => h); (case hw_48 => rfl); (case hy_48 => (intro w' hSw; (try simp only [S] at hSw); go_simp; (try with_reducible rfl))); (case hs_48 => assumption); (try simp only [Act.put, List.setIfInBounds_toArray, List.set_cons_zero, List.set_cons_succ])
  refine wpAnyH_take (i := 58) (oi := ?oi_49) (v := ?v_49) ?ho_49 ?h1_49 ?h2_49 ?h3_49 ?hq_49 (Or.inl ⟨?hw_49, ?hy_49⟩) ?hs_49 ?rest_49; (case h2_49 => kernel_rfl); (case h3_49 => kernel_rfl); (case ho_49 => (simp only [List.getElem?_toArray, List.getElem?_cons_zero, List.getElem?_cons_succ]; rfl)); (case h1_49 => kernel_rfl); (case hq_49 => exact fun _ _ _ h => h); (case hw_49 => rfl); (case hy_49 => (intro w' hSw; (try simp only [S] at hSw); go_simp; (try with_reducible rfl))); (case hs_49 => assumption); (try simp only [Act.put, List.setIfInBounds_toArray, List.set_cons_zero, List.set_cons_succ])
  refine wpAnyH_take (i := 59) (oi := ?oi_50) (v := ?v_50) ?ho_50 ?h1_50 ?h2_50 ?h3_50 ?hq_50 (Or.inl ⟨?hw_50, ?hy_50⟩) ?hs_50 ?rest_50; (case h2_50 => kernel_rfl); (case h3_50 => kernel_rfl); (case ho_50 => (simp only [List.getElem?_toArray, List.getElem?_cons_zero, List.getElem?_cons_succ]; rfl)); (case h1_50 => kernel_rfl); (case hq_50 => exact fun _ _ _ h => h); (case hw_50 => rfl); (case hy_50 => (intro w' hSw; (try simp only [S] at hSw); go_simp; (try with_reducible rfl))); (case hs_50 => assumption); (try simp only [Act.put, List.setIfInBounds_toArray, List.set_cons_zero, List.set_cons_succ])
  refine wpAnyH_take (i := 60) (oi := ?oi_51) (v := ?v_51) ?ho_51 ?h1_51 ?h2_51 ?h3_51 ?hq_51 (Or.inl ⟨?hw_51, ?hy_51⟩) ?hs_51 ?rest_51; (case h2_51 => kernel_rfl); (case h3_51 => kernel_rfl); (case ho_51 => (simp only [List.getElem?_toArray, List.getElem?_cons_zero, List.getElem?_cons_succ]; rfl)); (case h1_51 => kernel_rfl); (case hq_51 => exact fun _ _ _ h => h); (case hw_51 => rfl); (case hy_51 => (intro w' hSw; (try simp only [S] at hSw); go_simp; (try with_reducible rfl))); (case hs_51 => assumption); (try simp only [Act.put, List.setIfInBounds_toArray, List.set_cons_zero, List.set_cons_succ])
  refine wpAnyH_ready (rs := [61]) (by kernel_rfl) (by simp) (AllReadyH.cons (o := ?oo61_66) ?hoo61_66 (fun K hK => ?steponly66) AllReadyH.nil); (case hoo61_66 => (simp only [List.getElem?_toArray, List.getElem?_cons_zero, List.getElem?_cons_succ]; rfl))
  go_simp
  refine Calls.mono (b3 _ hS0 _ _) ?_
  rintro e w61 ⟨rfl, rfl⟩
  refine hK.out _ _ hS0 (fun _ => ?_)
  clear hK K
  (try simp only [Act.put, List.setIfInBounds_toArray, List.set_cons_zero, List.set_cons_succ])
  refine wpAnyH_take (i := 62) (oi := ?oi_52) (v := ?v_52) ?ho_52 ?h1_52 ?h2_52 ?h3_52 ?hq_52 (Or.inl ⟨?hw_52, ?hy_52⟩) ?hs_52 ?rest_52; (case h2_52 => kernel_rfl); (case h3_52 => kernel_rfl); (case ho_52 => (simp only [List.getElem?_toArray, List.getElem?_cons_zero, List.getElem?_cons_succ]; rfl)); (case h1_52 => kernel_rfl); (case hq_52 => exact fun _ _ _ h => h); (case hw_52 => rfl); (case hy_52 => (intro w' hSw; (try simp only [S] at hSw); go_simp; (try with_reducible rfl))); (case hs_52 => assumption); (try simp only [Act.put, List.setIfInBounds_toArray, List.set_cons_zero, List.set_cons_succ])
  refine wpAnyH_take (i := 63) (oi := ?oi_53) (v := ?v_53) ?ho_53 ?h1_53 ?h2_53 ?h3_53 ?hq_53 (Or.inl ⟨?hw_53, ?hy_53⟩) ?hs_53 ?rest_53; (case h2_53 => kernel_rfl); (case h3_53 => kernel_rfl); (case ho_53 => (simp only [List.getElem?_toArray, List.getElem?_cons_zero, List.getElem?_cons_succ]; rfl)); (case h1_53 => kernel_rfl); (case hq_53 => exact fun _ _ _ h => h); (case hw_53 => rfl); (case hy_53 => (intro w' hSw; (try simp only [S] at hSw); go_simp; (try with_reducible rfl))); (case hs_53 => assumption); (try simp only [Act.put, List.setIfInBounds_toArray, List.set_cons_zero, List.set_cons_succ])
  refine wpAnyH_ready (rs := [64]) (by kernel_rfl) (by simp) (AllReadyH.cons (o := ?oo64_67) ?hoo64_67 (fun K hK => ?steponly67) AllReadyH.nil); (case hoo64_67 => (simp only [List.getElem?_toArray, List.getElem?_cons_zero, List.getElem?_cons_succ]; rfl))
  go_simp
  refine Calls.mono (wakes24_any _) ?_
  rintro e W3 ⟨rfl, hb3⟩
  have h3 : S W3 := hS0.trans (hb3.mono (Nat.le_refl _))
  refine hK.out _ _ h3 (fun _ => ?_)
  clear hK K
  (try simp only [Act.put, List.setIfInBounds_toArray, List.set_cons_zero, List.set_cons_succ])
  refine wpAnyH_take (i := 65) (oi := ?oi_54) (v := ?v_54) ?ho_54 ?h1_54 ?h2_54 ?h3_54 ?hq_54 (Or.inl ⟨?hw_54, ?hy_54⟩) ?hs_54 ?rest_54; (case h2_54 => kernel_rfl); (case h3_54 => kernel_rfl); (case ho_54 => (simp only [List.getElem?_toArray, List.getElem?_cons_zero, List.getElem?_cons_succ]; rfl)); (case h1_54 => kernel_rfl); (case hq_54 => exact fun _ _ _ h => h); (case hw_54 => rfl); (case hy_54 => (intro w' hSw; (try simp only [S] at hSw); go_simp; (try with_reducible rfl))); (case hs_54 => assumption); (try simp only [Act.put, List.setIfInBounds_toArray, List.set_cons_zero, List.set_cons_succ])
  refine wpAnyH_take (i := 66) (oi := ?oi_55) (v := ?v_55) ?ho_55 ?h1_55 ?h2_55 ?h3_55 ?hq_55 (Or.inl ⟨?hw_55, ?hy_55⟩) ?hs_55 ?rest_55; (case h2_55 => kernel_rfl); (case h3_55 => kernel_rfl); (case ho_55 => (simp only [List.getElem?_toArray, List.getElem?_cons_zero, List.getElem?_cons_succ]; rfl)); (case h1_55 => kernel_rfl); (case hq_55 => exact fun _ _ _ h => h); (case hw_55 => rfl); (case hy_55 => (intro w' hSw; (try simp only [S] at hSw); go_simp; (try with_reducible rfl))); (case hs_55 => assumption); (try simp only [Act.put, List.setIfInBounds_toArray, List.set_cons_zero, List.set_cons_succ])
  refine wpAnyH_done (by kernel_rfl) ?_ _
  go_wp2_with fail
  go_ret
  exact Ret.mk rfl (HB.out.trans (Below.mono h3 HB.out.size))

set_option maxRecDepth 100000 in
theorem revPlaces_walk {H : Type} {enc : TypeId × Value → H} {W : World} {base : Nat} {v0 : Value} {d0 : DataW H} {p0 : List MemPlace}
    (k0 : Value.okWide Try.prog W .any base 43 v0) (h0 : DataW.Trod enc Try.prog W 0 (fun _ => true) true 43 v0 d0 p0)
    : Calls Try.prog 9 #[v0] W fun e W' => e = .returned (.bool true) ∧ Below W.heap.size W W' := by
  obtain ⟨r, rfl, hr⟩ := open_rv k0 h0
  cases hg : r.good
  · exact revPlaces_no hr hg W
  · exact revPlaces_yes hr hg W
end Go.Proofs.Ytjfkaebikmnnaaa
