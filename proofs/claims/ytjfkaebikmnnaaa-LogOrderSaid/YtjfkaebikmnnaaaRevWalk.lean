/- The walks over a revision's bytes: two, EncodeRev and its reference. -/
import Derived.Test.YtjfkaebikmnnaaaRevPlain
import Derived.Test.YtjfkaebikmnnaaaRow
import Derived.Test.YtjfkaebikmnnaaaConcat
namespace Go.Proofs.Ytjfkaebikmnnaaa
set_option linter.unusedSimpArgs false
set_option linter.unusedVariables false
open Go.RowKit Go.Sort

/-- what a call says that hands back bytes and an error's number -/
def EncP (w : World) (l : List UInt8) (er : Int) (e : Ending) (w' : World) : Prop :=
  ∃ A n c, e = .returned (.tuple #[.slice A n c, .int .i64 er]) ∧ n = l.length ∧ n ≤ c ∧ c ≤ maxLen ∧ (A = none → c = 0) ∧ Sl w' w'.heap.size 1 A n (bvs l) ∧ Below w.heap.size w w'
theorem EncP.no {w w' : World} (h : Below w.heap.size w w') : EncP w [] 11 (.returned (.tuple #[.slice none 0 0, .int .i64 11])) w' :=
  ⟨none, 0, 0, rfl, rfl, Nat.le_refl _, by simp [maxLen], fun _ => rfl, Sl.nil, h⟩
theorem EncP.own {w w' : World} {l : List UInt8} {A : Option Addr} {n c base : Nat} {t : TypeId} (hn : n = l.length) (ho : w'.ownsRow base t 1 (.slice A n c) n (bvs l)) (h : Below w.heap.size w w') : EncP w l 0 (.returned (.tuple #[.slice A n c, .int .i64 0])) w' := by
  obtain ⟨A', c', e, h1, h2⟩ := own_form ho
  simp only [Value.slice.injEq] at e
  obtain ⟨rfl, -, rfl⟩ := e
  refine ⟨A, n, c, rfl, hn, h1, h2, fun e => ?_, Sl.of_own ho, h⟩
  subst e
  rcases ho.2 with ⟨e, _⟩ | ⟨g, cap, cur, e, _⟩
  · simp only [Value.slice.injEq] at e; exact e.2.2
  · simp at e

theorem or_join (i : Nat) {x y : Int} (hi : i ≤ 40) (hx₀ : 0 ≤ x) (hx : x % 2 ^ i = 0) (hx₁ : x < 4611686018427387904) (h₀ : 0 ≤ y) (h₁ : y < 2 ^ i) (h₂ : y < 4611686018427387904) : bits .or .i64 x y = x + y :=
  bits_join .i64 62 (by decide) (fun n a b => wrap_small n a (by omega)) i x y hx₀ hx (by omega) h₀ h₁ (by omega)
theorem or16 (x y : UInt8) : bits .or .i64 ((x.toNat : Int) * 256) (y.toNat : Int) = ((x.toNat * 256 + y.toNat : Nat) : Int) := by
  have h1 := x.toNat_lt
  have h2 := y.toNat_lt
  rw [or_join 8 (by omega) (by omega) (by omega) (by omega) (by omega) (by omega) (by omega)]
  omega
theorem Sl.cellAt {w : World} {B n : Nat} {A : Option Addr} {l : List UInt8} (h : Sl w B 1 A n (bvs l)) {b o : Nat} (hA : A = some ⟨b, o, none⟩) {i : Nat} (hi : i < n) : w.cell? ⟨b, o + i, none⟩ = some (.int .u8 ((at8 l i).toNat : Int)) := by
  obtain ⟨b', o', e, -, hr⟩ := h.at_ (by omega)
  rw [hA] at e
  simp only [Option.some.injEq, Addr.mk.injEq] at e
  obtain ⟨rfl, rfl, -⟩ := e
  have hl : i < l.length := by have := h.len; rw [bvs_len] at this; omega
  refine hr i _ ?_
  unfold at8
  rw [List.getElem?_eq_getElem hl]
  simp [bvs, bv, hl]
set_option maxHeartbeats 1000000 in
theorem two_any {A : Option Addr} {n c B : Nat} {l : List UInt8} (w : World) (h : Sl w B 1 A n (bvs l)) (h2 : 2 ≤ n) :
    Calls Try.prog 34 #[.slice A n c] w fun e w' => e = .returned (.int .i64 (n16 l 0 : Nat)) ∧ ∃ k, w' = w.drewN k := by
  obtain ⟨b, o, rfl, hb, -⟩ := h.at_ (by omega)
  have k0 := h.cellAt rfl (i := 0) (by omega)
  have k1 := h.cellAt rfl (i := 1) (by omega)
  rw [Nat.add_zero] at k0
  have g0 : 0 < n := by omega
  have g1 : 1 < n := by omega
  have g2 : (1 : Int) < (n : Int) := by omega
  have l0 := (at8 l 0).toNat_lt
  have l1 := (at8 l 1).toNat_lt
  have hor := or16 (at8 l 0) (at8 l 1)
  have hn : ((n16 l 0 : Nat) : Int) = (((at8 l 0).toNat * 256 + (at8 l 1).toNat : Nat) : Int) := rfl
  have e1 : IntKind.i64.wrap (((at8 l 0).toNat : Int) * 256) = ((at8 l 0).toNat : Int) * 256 := wrap_small _ (by omega) (by omega)
  have e2 : IntKind.i64.wrap ((at8 l 0).toNat : Int) = ((at8 l 0).toNat : Int) := wrap_small _ (by omega) (by omega)
  have e3 : IntKind.i64.wrap ((at8 l 1).toNat : Int) = ((at8 l 1).toNat : Int) := wrap_small _ (by omega) (by omega)
  rw [hn]
  clear hn
  generalize ((at8 l 0).toNat * 256 + (at8 l 1).toNat : Nat) = M at *
  generalize (at8 l 0).toNat = X at *
  generalize (at8 l 1).toNat = Y at *
  go_enter Try.func34, Try.ntmps34
  go_wp2
  go_quiet (fail)
  go_wp2
  go_ret
  exact ⟨rfl, _, rfl⟩

/-- a revision's cells -/
structure RvAt (w : World) (g : Nat) (r : RV) : Prop where
  blk : w.heap[g]? = some (.cells r.cells.toArray 43)
  c0 : w.cell? ⟨g, 0, none⟩ = some (.int .i64 r.num)
  c1 : w.cell? ⟨g, 1, none⟩ = some (.int .i64 r.par)
  src : w.rangeAt g 2 (bvs r.src)
  sty : w.rangeAt g 34 (bvs r.sty)
  tre : w.rangeAt g 66 (bvs r.tre)
  c98 : w.cell? ⟨g, 98, none⟩ = some (.int .i64 r.pag)
theorem rv_parts {r : RV} (h : r.Ok) : (r.cells.drop 2).take 32 = bvs r.src ∧ (r.cells.drop 34).take 32 = bvs r.sty ∧ (r.cells.drop 66).take 32 = bvs r.tre ∧ r.cells[98]? = some (.int .i64 r.pag) := by
  have h1 : (bvs r.src).length = 32 := by rw [bvs_len, h.src]
  have h2 : (bvs r.sty).length = 32 := by rw [bvs_len, h.sty]
  have h3 : (bvs r.tre).length = 32 := by rw [bvs_len, h.tre]
  have e : r.cells = [.int .i64 r.num, .int .i64 r.par] ++ (bvs r.src ++ (bvs r.sty ++ (bvs r.tre ++ [.int .i64 r.pag]))) := rfl
  rw [e]
  generalize bvs r.src = a at *
  generalize bvs r.sty = b at *
  generalize bvs r.tre = c at *
  refine ⟨?_, ?_, ?_, ?_⟩
  · show (a ++ (b ++ (c ++ _))).take 32 = a
    rw [← h1, List.take_left]
  · rw [show (34 : Nat) = 2 + 32 from rfl, ← List.drop_drop]
    show ((a ++ (b ++ (c ++ _))).drop 32).take 32 = b
    rw [← h1, List.drop_left, h1, ← h2, List.take_left]
  · rw [show (66 : Nat) = 2 + (32 + 32) from rfl, ← List.drop_drop, ← List.drop_drop]
    show (((a ++ (b ++ (c ++ _))).drop 32).drop 32).take 32 = c
    rw [← h1, List.drop_left, h1, ← h2, List.drop_left, h2, ← h3, List.take_left]
  · rw [List.getElem?_append_right (by simp), List.getElem?_append_right (by simp; omega), List.getElem?_append_right (by simp; omega), List.getElem?_append_right (by simp; omega), h1, h2, h3]
    rfl
theorem RvAt.of {w : World} {g : Nat} {r : RV} (hs : r.Ok) (h : w.heap[g]? = some (.cells r.cells.toArray 43)) : RvAt w g r := by
  have hr : w.rangeAt g 0 r.cells := fun j u hj => by rw [Nat.zero_add]; exact blk_cell h (by simpa using hj)
  obtain ⟨p1, p2, p3, p4⟩ := rv_parts hs
  have h2 := range_cut hr 2 32
  have h34 := range_cut hr 34 32
  have h66 := range_cut hr 66 32
  rw [Nat.zero_add, p1] at h2
  rw [Nat.zero_add, p2] at h34
  rw [Nat.zero_add, p3] at h66
  exact ⟨h, blk_cell h rfl, blk_cell h rfl, h2, h34, h66, blk_cell h (by rw [List.getElem?_toArray]; exact p4)⟩

theorem bad_ways {r : RV} (h : r.good = false) : r.num < 1 ∨ (1 ≤ r.num ∧ 65535 < r.num) ∨ (1 ≤ r.num ∧ r.num ≤ 65535 ∧ r.par < 0) ∨ (1 ≤ r.num ∧ r.num ≤ 65535 ∧ 0 ≤ r.par ∧ r.num ≤ r.par) ∨
    (1 ≤ r.num ∧ r.num ≤ 65535 ∧ 0 ≤ r.par ∧ r.par < r.num ∧ r.pag < 0) ∨ (1 ≤ r.num ∧ r.num ≤ 65535 ∧ 0 ≤ r.par ∧ r.par < r.num ∧ 0 ≤ r.pag ∧ 255 < r.pag) := by
  have : ¬ (1 ≤ r.num ∧ r.num ≤ 65535 ∧ 0 ≤ r.par ∧ r.par < r.num ∧ 0 ≤ r.pag ∧ r.pag ≤ 255) := fun k => by rw [(good_iff r).2 k] at h; cases h
  omega
set_option maxHeartbeats 4000000 in
set_option maxRecDepth 100000 in
theorem rev_no {r : RV} (hr : r.Ok) (hg : r.good = false) (w : World) : Calls Try.prog 20 #[rvv r] w (EncP w [] 11) := by
  have hw := bad_ways hg
  have hof := fun (W : World) (g : Nat) (h : W.heap[g]? = some (.cells r.cells.toArray 43)) => RvAt.of hr h
  unfold rvv
  obtain ⟨num, par, src, sty, tre, pag⟩ := r
  simp only at hw
  obtain ⟨cs, hcs⟩ : ∃ cs, (RV.cells ⟨num, par, src, sty, tre, pag⟩).toArray = cs := ⟨_, rfl⟩
  rw [hcs] at hof ⊢
  clear hcs hg hr
  go_enter Try.func20, Try.ntmps20
  go_upto_region 1 with (fail)
  obtain ⟨W, hW⟩ : ∃ W, w.alloc (.cells cs 43) = W := ⟨_, rfl⟩
  try rw [hW]
  have a1 : W.heap[w.heap.size]? = some (.cells cs 43) := by rw [← hW]; exact heap_alloc_new _ _
  have hB : Below w.heap.size w W := by rw [← hW]; exact (Below.refl _ _).alloc (Nat.le_refl _) _
  obtain ⟨-, c0, c1, -, -, -, c98⟩ := hof W _ a1
  simp only at c0 c1 c98
  clear hW hof a1
  have HB := Lib.hid hB
  rcases hw with h | ⟨h1, h⟩ | ⟨h1, h2, h⟩ | ⟨h1, h2, h3, h⟩ | ⟨h1, h2, h3, h4, h⟩ | ⟨h1, h2, h3, h4, h5, h⟩
  all_goals
    go_wp2_with fail
    go_ret2
    exact EncP.no HB.out
set_option maxHeartbeats 4000000 in
set_option maxRecDepth 100000 in
theorem rrev_no {r : RV} (hr : r.Ok) (hg : r.good = false) (w : World) : Calls Try.prog 21 #[rvv r] w (EncP w [] 11) := by
  have hw := bad_ways hg
  have hof := fun (W : World) (g : Nat) (h : W.heap[g]? = some (.cells r.cells.toArray 43)) => RvAt.of hr h
  unfold rvv
  obtain ⟨num, par, src, sty, tre, pag⟩ := r
  simp only at hw
  obtain ⟨cs, hcs⟩ : ∃ cs, (RV.cells ⟨num, par, src, sty, tre, pag⟩).toArray = cs := ⟨_, rfl⟩
  rw [hcs] at hof ⊢
  clear hcs hg hr
  go_enter Try.func21, Try.ntmps21
  go_upto_region 1 with (fail)
  obtain ⟨W, hW⟩ : ∃ W, w.alloc (.cells cs 43) = W := ⟨_, rfl⟩
  try rw [hW]
  have a1 : W.heap[w.heap.size]? = some (.cells cs 43) := by rw [← hW]; exact heap_alloc_new _ _
  have hB : Below w.heap.size w W := by rw [← hW]; exact (Below.refl _ _).alloc (Nat.le_refl _) _
  obtain ⟨-, c0, c1, -, -, -, c98⟩ := hof W _ a1
  simp only at c0 c1 c98
  clear hW hof a1
  have HB := Lib.hid hB
  rcases hw with h | ⟨h1, h⟩ | ⟨h1, h2, h⟩ | ⟨h1, h2, h3, h⟩ | ⟨h1, h2, h3, h4, h⟩ | ⟨h1, h2, h3, h4, h5, h⟩
  all_goals
    go_wp2_with fail
    go_ret2
    exact EncP.no HB.out

theorem head_cells (r : RV) : (bvs r.head).toArray = #[Value.int .u8 (r.num / 256 % 256), Value.int .u8 (r.num % 256), Value.int .u8 (r.par / 256 % 256), Value.int .u8 (r.par % 256), Value.int .u8 (r.pag % 256)] := by
  simp only [RV.head, bvs, List.map_cons, List.map_nil, bv_u8]

attribute [-go_sem] Builtin.append_
set_option maxHeartbeats 8000000 in
set_option maxRecDepth 100000 in
theorem rev_yes {r : RV} (hr : r.Ok) (hg : r.good = true) (w : World) : Calls Try.prog 20 #[rvv r] w (EncP w r.bytes 0) := by
  obtain ⟨h1, h2, h3, h4, h5, h6⟩ := (good_iff r).1 hg
  have hof := fun (W : World) (g : Nat) (h : W.heap[g]? = some (.cells r.cells.toArray 43)) => RvAt.of hr h
  have hbl := hr.bytes
  have hH := head_cells r
  have hHl : r.head.length = 5 := rfl
  have hBy : Hid (r.bytes = r.head ++ (r.src ++ (r.sty ++ r.tre))) := Lib.hid rfl
  have hs := hr.src
  have ht := hr.sty
  have hu := hr.tre
  unfold rvv
  obtain ⟨cs, hcs⟩ : ∃ cs, r.cells.toArray = cs := ⟨_, rfl⟩
  rw [hcs] at hof ⊢
  clear hcs hg hr
  obtain ⟨bs, hbs⟩ : ∃ b, r.bytes = b := ⟨_, rfl⟩
  obtain ⟨hd, hhd⟩ : ∃ b, r.head = b := ⟨_, rfl⟩
  rw [hbs] at hbl hBy ⊢
  rw [hhd] at hH hHl hBy
  rw [show r.num / 256 % 256 = r.num / 256 from by omega, show r.par / 256 % 256 = r.par / 256 from by omega, show r.pag % 256 = r.pag from by omega] at hH
  clear hbs hhd
  obtain ⟨num, par, src, sty, tre, pag⟩ := r
  simp only at h1 h2 h3 h4 h5 h6 hs ht hu hH hBy
  have HH := Lib.hid hH
  clear hH
  go_enter Try.func20, Try.ntmps20
  go_upto_region 1 with (fail)
  obtain ⟨W, hW⟩ : ∃ W, w.alloc (.cells cs 43) = W := ⟨_, rfl⟩
  try rw [hW]
  have a1 : W.heap[w.heap.size]? = some (.cells cs 43) := by rw [← hW]; exact heap_alloc_new _ _
  have hB : Below w.heap.size w W := by rw [← hW]; exact (Below.refl _ _).alloc (Nat.le_refl _) _
  obtain ⟨-, c0, c1, rs, rt, ru, c98⟩ := hof W _ a1
  simp only at c0 c1 c98 rs rt ru
  have hlt := (Array.getElem?_eq_some_iff.1 a1).1
  clear hW hof a1
  have HB := Lib.hid (And.intro hB (And.intro rs (And.intro rt ru)))
  clear hB rs rt ru
  go_upto_region 4 with (fail)
  obtain ⟨hB, rs, rt, ru⟩ := HB.out
  obtain ⟨Wa, hWa⟩ : ∃ X, W.alloc (.cells (bvs hd).toArray 5) = X := ⟨_, rfl⟩
  rw [← HH.out, hWa]
  have hbA : Below W.heap.size W Wa := by rw [← hWa]; exact (Below.refl _ _).alloc (Nat.le_refl _) _
  have bH : Wa.heap[W.heap.size]? = some (.cells (bvs hd).toArray 5) := by rw [← hWa]; exact heap_alloc_new _ _
  have hzA : W.heap.size < Wa.heap.size := by rw [← hWa]; simp
  have hBA := hB.trans (hbA.mono hB.size)
  replace rs := bRange hbA hlt rs
  replace rt := bRange hbA hlt rt
  replace ru := bRange hbA hlt ru
  clear hWa hbA hB c0 c1 c98 h1 h2 h3 h4 h5 h6
  have tl := hu
  let S : World → Prop := fun _ => True
  refine wp_region_held (S := S) (by kernel_rfl) ?_
  change wpAnyH _ _ _ _ S _ _ _ Wa.drew
  have hS0 : S Wa.drew := trivial
  refine wpAnyH_take (i := 0) (oi := ?oi_255) (v := ?v_255) ?ho_255 ?h1_255 ?h2_255 ?h3_255 ?hq_255 (Or.inl ⟨?hw_255, ?hy_255⟩) ?hs_255 ?rest_255; (case h2_255 => kernel_rfl); (case h3_255 => kernel_rfl); (case ho_255 => (simp only [List.getElem?_toArray, List.getElem?_cons_zero, List.getElem?_cons_succ]; rfl)); (case h1_255 => kernel_rfl); (case hq_255 => exact fun _ _ _ h => h); (case hw_255 => rfl); (case hy_255 => (intro w' hSw; (try simp only [S] at hSw); go_simp; (try with_reducible rfl))); (case hs_255 => assumption); (try simp only [Act.put, List.setIfInBounds_toArray, List.set_cons_zero, List.set_cons_succ])
  refine wpAnyH_take (i := 1) (oi := ?oi_256) (v := ?v_256) ?ho_256 ?h1_256 ?h2_256 ?h3_256 ?hq_256 (Or.inl ⟨?hw_256, ?hy_256⟩) ?hs_256 ?rest_256; (case h2_256 => kernel_rfl); (case h3_256 => kernel_rfl); (case ho_256 => (simp only [List.getElem?_toArray, List.getElem?_cons_zero, List.getElem?_cons_succ]; rfl)); (case h1_256 => kernel_rfl); (case hq_256 => exact fun _ _ _ h => h); (case hw_256 => rfl); (case hy_256 => (intro w' hSw; (try simp only [S] at hSw); go_simp; (try with_reducible rfl))); (case hs_256 => assumption); (try simp only [Act.put, List.setIfInBounds_toArray, List.set_cons_zero, List.set_cons_succ])
  refine wpAnyH_take (i := 2) (oi := ?oi_257) (v := ?v_257) ?ho_257 ?h1_257 ?h2_257 ?h3_257 ?hq_257 (Or.inl ⟨?hw_257, ?hy_257⟩) ?hs_257 ?rest_257; (case h2_257 => kernel_rfl); (case h3_257 => kernel_rfl); (case ho_257 => (simp only [List.getElem?_toArray, List.getElem?_cons_zero, List.getElem?_cons_succ]; rfl)); (case h1_257 => kernel_rfl); (case hq_257 => exact fun _ _ _ h => h); (case hw_257 => rfl); (case hy_257 => (intro w' hSw; (try simp only [S] at hSw); go_simp; (try with_reducible rfl))); (case hs_257 => assumption); (try simp only [Act.put, List.setIfInBounds_toArray, List.set_cons_zero, List.set_cons_succ])
  refine wpAnyH_take (i := 3) (oi := ?oi_258) (v := ?v_258) ?ho_258 ?h1_258 ?h2_258 ?h3_258 ?hq_258 (Or.inl ⟨?hw_258, ?hy_258⟩) ?hs_258 ?rest_258; (case h2_258 => kernel_rfl); (case h3_258 => kernel_rfl); (case ho_258 => (simp only [List.getElem?_toArray, List.getElem?_cons_zero, List.getElem?_cons_succ]; rfl)); (case h1_258 => kernel_rfl); (case hq_258 => exact fun _ _ _ h => h); (case hw_258 => rfl); (case hy_258 => (intro w' hSw; (try simp only [S] at hSw); go_simp; (try with_reducible rfl))); (case hs_258 => assumption); (try simp only [Act.put, List.setIfInBounds_toArray, List.set_cons_zero, List.set_cons_succ])
  refine wpAnyH_take (i := 4) (oi := ?oi_259) (v := ?v_259) ?ho_259 ?h1_259 ?h2_259 ?h3_259 ?hq_259 (Or.inl ⟨?hw_259, ?hy_259⟩) ?hs_259 ?rest_259; (case h2_259 => kernel_rfl); (case h3_259 => kernel_rfl); (case ho_259 => (simp only [List.getElem?_toArray, List.getElem?_cons_zero, List.getElem?_cons_succ]; rfl)); (case h1_259 => kernel_rfl); (case hq_259 => exact fun _ _ _ h => h); (case hw_259 => rfl); (case hy_259 => (intro w' hSw; (try simp only [S] at hSw); go_simp; (try with_reducible rfl))); (case hs_259 => assumption); (try simp only [Act.put, List.setIfInBounds_toArray, List.set_cons_zero, List.set_cons_succ])
  refine wpAnyH_take (i := 5) (oi := ?oi_260) (v := ?v_260) ?ho_260 ?h1_260 ?h2_260 ?h3_260 ?hq_260 (Or.inl ⟨?hw_260, ?hy_260⟩) ?hs_260 ?rest_260; (case h2_260 => kernel_rfl); (case h3_260 => kernel_rfl); (case ho_260 => (simp only [List.getElem?_toArray, List.getElem?_cons_zero, List.getElem?_cons_succ]; rfl)); (case h1_260 => kernel_rfl); (case hq_260 => exact fun _ _ _ h => h); (case hw_260 => rfl); (case hy_260 => (intro w' hSw; (try simp only [S] at hSw); go_simp; (try with_reducible rfl))); (case hs_260 => assumption); (try simp only [Act.put, List.setIfInBounds_toArray, List.set_cons_zero, List.set_cons_succ])
  refine wpAnyH_take (i := 6) (oi := ?oi_261) (v := ?v_261) ?ho_261 ?h1_261 ?h2_261 ?h3_261 ?hq_261 (Or.inl ⟨?hw_261, ?hy_261⟩) ?hs_261 ?rest_261; (case h2_261 => kernel_rfl); (case h3_261 => kernel_rfl); (case ho_261 => (simp only [List.getElem?_toArray, List.getElem?_cons_zero, List.getElem?_cons_succ]; rfl)); (case h1_261 => kernel_rfl); (case hq_261 => exact fun _ _ _ h => h); (case hw_261 => rfl); (case hy_261 => (intro w' hSw; (try simp only [S] at hSw); go_simp; (try with_reducible rfl))); (case hs_261 => assumption); (try simp only [Act.put, List.setIfInBounds_toArray, List.set_cons_zero, List.set_cons_succ])
  refine wpAnyH_ready (rs := [7]) (by kernel_rfl) (by simp) (AllReadyH.cons (o := ?oo7_273) ?hoo7_273 (fun K hK => ?steponly273) AllReadyH.nil); (case hoo7_273 => (simp only [List.getElem?_toArray, List.getElem?_cons_zero, List.getElem?_cons_succ]; rfl))
  go_simp
  obtain ⟨Wb, hWb⟩ : ∃ X, (Wa.alloc (.cells #[Value.slice (some ⟨W.heap.size, 0, none⟩) 5 5, Value.slice (some ⟨w.heap.size, 2, none⟩) 32 32, Value.slice (some ⟨w.heap.size, 34, none⟩) 32 32, Value.slice (some ⟨w.heap.size, 66, none⟩) 32 32] 24)).drew = X := ⟨_, rfl⟩
  rw [hWb]
  have hbB : Below Wa.heap.size Wa Wb := by rw [← hWb]; exact ((Below.refl _ _).alloc (Nat.le_refl _) _).drew
  have bL : Wb.heap[Wa.heap.size]? = some (.cells #[Value.slice (some ⟨W.heap.size, 0, none⟩) 5 5, Value.slice (some ⟨w.heap.size, 2, none⟩) 32 32, Value.slice (some ⟨w.heap.size, 34, none⟩) 32 32, Value.slice (some ⟨w.heap.size, 66, none⟩) 32 32] 24) := by rw [← hWb]; exact heap_alloc_new _ _
  have hzB : Wa.heap.size < Wb.heap.size := by rw [← hWb]; show _ < (Wa.alloc _).heap.size; simp
  have hBB := hBA.trans (hbB.mono hBA.size)
  replace bH := bBlk hbB hzA bH
  replace rs := bRange hbB (by omega) rs
  replace rt := bRange hbB (by omega) rt
  replace ru := bRange hbB (by omega) ru
  clear hWb hbB hBA
  refine hK.out _ _ trivial (fun _ => ?_)
  clear hK K
  (try simp only [Act.put, List.setIfInBounds_toArray, List.set_cons_zero, List.set_cons_succ])
  have hcc := concat_any [(some ⟨W.heap.size, 0, none⟩, 5, hd), (some ⟨w.heap.size, 2, none⟩, 32, src), (some ⟨w.heap.size, 34, none⟩, 32, sty), (some ⟨w.heap.size, 66, none⟩, 32, tre)] (A0 := some ⟨Wa.heap.size, 0, none⟩) (c0 := 4) Wb
    (by
      have e : [(some (⟨W.heap.size, 0, none⟩ : Addr), 5, hd), (some ⟨w.heap.size, 2, none⟩, 32, src), (some ⟨w.heap.size, 34, none⟩, 32, sty), (some ⟨w.heap.size, 66, none⟩, 32, tre)].map slv = [Value.slice (some ⟨W.heap.size, 0, none⟩) 5 5, Value.slice (some ⟨w.heap.size, 2, none⟩) 32 32, Value.slice (some ⟨w.heap.size, 34, none⟩) 32 32, Value.slice (some ⟨w.heap.size, 66, none⟩) 32 32] := by
        simp only [List.map_cons, List.map_nil, slv, hHl, hs, ht, hu]
      rw [e]
      exact Sl.new bL rfl)
    (by
      intro x hx
      simp only [List.mem_cons, List.mem_nil_iff, or_false] at hx
      rcases hx with rfl | rfl | rfl | rfl
      · show Sl Wb _ 1 (some ⟨W.heap.size, 0, none⟩) hd.length (bvs hd)
        rw [hHl]
        exact Sl.new (sz := 1) (n := 5) bH (by simp [bvs_len, hHl])
      · exact ⟨by simp [bvs_len], fun _ => ⟨w.heap.size, 2, rfl, by omega, rs⟩⟩
      · exact ⟨by simp [bvs_len], fun _ => ⟨w.heap.size, 34, rfl, by omega, rt⟩⟩
      · exact ⟨by simp [bvs_len], fun _ => ⟨w.heap.size, 66, rfl, by omega, ru⟩⟩)
    (by simp [allB, hHl, hs, ht, hu]) (by simp)
  have eB : allB [(some (⟨W.heap.size, 0, none⟩ : Addr), 5, hd), (some ⟨w.heap.size, 2, none⟩, 32, src), (some ⟨w.heap.size, 34, none⟩, 32, sty), (some ⟨w.heap.size, 66, none⟩, 32, tre)] = bs := by rw [hBy.out]; simp [allB]
  rw [eB, hbl] at hcc
  clear bL bH rs rt ru hHl hs ht hu tl eB
  refine wpAnyH_ready (rs := [8]) (by kernel_rfl) (by simp) (AllReadyH.cons (o := ?oo8_274) ?hoo8_274 (fun K hK => ?steponly274) AllReadyH.nil); (case hoo8_274 => (simp only [List.getElem?_toArray, List.getElem?_cons_zero, List.getElem?_cons_succ]; rfl))
  go_simp
  refine Calls.mono hcc ?_
  rintro e W3 ⟨A3, c3, rfl, hown, hb3⟩
  have hB3 := hBB.trans (hb3.mono hBB.size)
  refine hK.out _ _ trivial (fun _ => ?_)
  clear hK K
  (try simp only [Act.put, List.setIfInBounds_toArray, List.set_cons_zero, List.set_cons_succ])
  refine wpAnyH_take (i := 9) (oi := ?oi_262) (v := ?v_262) ?ho_262 ?h1_262 ?h2_262 ?h3_262 ?hq_262 (Or.inl ⟨?hw_262, ?hy_262⟩) ?hs_262 ?rest_262; (case h2_262 => kernel_rfl); (case h3_262 => kernel_rfl); (case ho_262 => (simp only [List.getElem?_toArray, List.getElem?_cons_zero, List.getElem?_cons_succ]; rfl)); (case h1_262 => kernel_rfl); (case hq_262 => exact fun _ _ _ h => h); (case hw_262 => rfl); (case hy_262 => (intro w' hSw; (try simp only [S] at hSw); go_simp; (try with_reducible rfl))); (case hs_262 => assumption); (try simp only [Act.put, List.setIfInBounds_toArray, List.set_cons_zero, List.set_cons_succ])
  refine wpAnyH_take (i := 10) (oi := ?oi_263) (v := ?v_263) ?ho_263 ?h1_263 ?h2_263 ?h3_263 ?hq_263 (Or.inl ⟨?hw_263, ?hy_263⟩) ?hs_263 ?rest_263; (case h2_263 => kernel_rfl); (case h3_263 => kernel_rfl); (case ho_263 => (simp only [List.getElem?_toArray, List.getElem?_cons_zero, List.getElem?_cons_succ]; rfl)); (case h1_263 => kernel_rfl); (case hq_263 => exact fun _ _ _ h => h); (case hw_263 => rfl); (case hy_263 => (intro w' hSw; (try simp only [S] at hSw); go_simp; (try with_reducible rfl))); (case hs_263 => assumption); (try simp only [Act.put, List.setIfInBounds_toArray, List.set_cons_zero, List.set_cons_succ])
  refine wpAnyH_done (by kernel_rfl) ?_ _
  have HO := Lib.hid (And.intro hown hB3)
  clear hown hB3 hcc
  go_wp2_with fail
  go_ret2
  exact EncP.own hbl.symm HO.out.1 HO.out.2

theorem own_lit {W : World} {base g n : Nat} {cs : List Value} {t : TypeId} (hb : base ≤ g) (h : W.heap[g]? = some (.cells cs.toArray t)) (hn : cs.length = n) (hm : n ≤ maxLen) : W.ownsRow base t 1 (.slice (some ⟨g, 0, none⟩) n n) n cs :=
  ⟨by rw [hn, Nat.mul_one], .inr ⟨g, n, cs.toArray, rfl, hb, h, Nat.le_refl _, hm, by simp [hn], by rw [Nat.mul_one, ← hn]; exact List.take_length⟩⟩
set_option maxHeartbeats 8000000 in
set_option maxRecDepth 100000 in
theorem rrev_yes {r : RV} (hr : r.Ok) (hg : r.good = true) (w : World) : Calls Try.prog 21 #[rvv r] w (EncP w r.bytes 0) := by
  obtain ⟨h1, h2, h3, h4, h5, h6⟩ := (good_iff r).1 hg
  have hof := fun (W : World) (g : Nat) (h : W.heap[g]? = some (.cells r.cells.toArray 43)) => RvAt.of hr h
  have hbl := hr.bytes
  have hH := head_cells r
  have hHl : r.head.length = 5 := rfl
  have hBy : Hid (r.bytes = r.head ++ (r.src ++ (r.sty ++ r.tre))) := Lib.hid rfl
  have hs := hr.src
  have ht := hr.sty
  have hu := hr.tre
  unfold rvv
  obtain ⟨cs, hcs⟩ : ∃ cs, r.cells.toArray = cs := ⟨_, rfl⟩
  rw [hcs] at hof ⊢
  clear hcs hg hr
  obtain ⟨bs, hbs⟩ : ∃ b, r.bytes = b := ⟨_, rfl⟩
  obtain ⟨hd, hhd⟩ : ∃ b, r.head = b := ⟨_, rfl⟩
  rw [hbs] at hbl hBy ⊢
  rw [hhd] at hH hHl hBy
  rw [show r.num / 256 % 256 = r.num / 256 from by omega, show r.par / 256 % 256 = r.par / 256 from by omega, show r.pag % 256 = r.pag from by omega] at hH
  clear hbs hhd
  obtain ⟨num, par, src, sty, tre, pag⟩ := r
  simp only at h1 h2 h3 h4 h5 h6 hs ht hu hH hBy
  have HH := Lib.hid hH
  clear hH
  go_enter Try.func21, Try.ntmps21
  go_upto_region 1 with (fail)
  obtain ⟨W, hW⟩ : ∃ W, w.alloc (.cells cs 43) = W := ⟨_, rfl⟩
  try rw [hW]
  have a1 : W.heap[w.heap.size]? = some (.cells cs 43) := by rw [← hW]; exact heap_alloc_new _ _
  have hB : Below w.heap.size w W := by rw [← hW]; exact (Below.refl _ _).alloc (Nat.le_refl _) _
  obtain ⟨-, c0, c1, rs, rt, ru, c98⟩ := hof W _ a1
  simp only at c0 c1 c98 rs rt ru
  have hlt := (Array.getElem?_eq_some_iff.1 a1).1
  clear hW hof a1
  have HB := Lib.hid (And.intro hB (And.intro rs (And.intro rt ru)))
  clear hB rs rt ru
  go_upto_region 4 with (fail)
  obtain ⟨hB, rs, rt, ru⟩ := HB.out
  obtain ⟨Wa, hWa⟩ : ∃ X, W.alloc (.cells (bvs hd).toArray 5) = X := ⟨_, rfl⟩
  rw [← HH.out, hWa]
  have hbA : Below W.heap.size W Wa := by rw [← hWa]; exact (Below.refl _ _).alloc (Nat.le_refl _) _
  have bH : Wa.heap[W.heap.size]? = some (.cells (bvs hd).toArray 5) := by rw [← hWa]; exact heap_alloc_new _ _
  have hzA : W.heap.size < Wa.heap.size := by rw [← hWa]; simp
  have hBA := hB.trans (hbA.mono hB.size)
  replace rs := bRange hbA hlt rs
  replace rt := bRange hbA hlt rt
  replace ru := bRange hbA hlt ru
  clear hWa hbA hB c0 c1 c98 h1 h2 h3 h4 h5 h6
  have own0 : Wa.drew.ownsRow W.heap.size 5 1 (.slice (some ⟨W.heap.size, 0, none⟩) 5 5) 5 (bvs hd) := own_lit (Nat.le_refl _) (W := Wa.drew) bH (by simp [bvs_len, hHl]) (by simp [maxLen])
  have s1 : Sl Wa.drew W.heap.size 1 (some ⟨w.heap.size, 2, none⟩) 32 (bvs src) := ⟨by rw [bvs_len, hs], fun _ => ⟨w.heap.size, 2, rfl, by omega, rs⟩⟩
  have s2 : Sl Wa.drew W.heap.size 1 (some ⟨w.heap.size, 34, none⟩) 32 (bvs sty) := ⟨by rw [bvs_len, ht], fun _ => ⟨w.heap.size, 34, rfl, by omega, rt⟩⟩
  have s3 : Sl Wa.drew W.heap.size 1 (some ⟨w.heap.size, 66, none⟩) 32 (bvs tre) := ⟨by rw [bvs_len, hu], fun _ => ⟨w.heap.size, 66, rfl, by omega, ru⟩⟩
  have hBd : Below w.heap.size w Wa.drew := hBA.drew
  have hzd : W.heap.size ≤ Wa.drew.heap.size := by show W.heap.size ≤ Wa.heap.size; omega
  have hwW : w.heap.size ≤ W.heap.size := by omega
  clear bH rs rt ru hs ht hu hHl hBA hzA hlt
  obtain ⟨V, hV⟩ : ∃ V, Wa.drew = V := ⟨_, rfl⟩
  rw [hV] at own0 s1 s2 s3 hBd hzd
  obtain ⟨A1, c1, w1, hrun1, row1, hg1, -⟩ := run_app (P := Try.prog) V (ty := 24) (t := 24) Try.underlying24 elemC own0 s1 (c := 32) (oneCell_bvs _) (by simp only [maxLen]; omega) (by omega) hzd
  have b1 : Below W.heap.size V w1 := (Below.refl _ V).grown hg1 hzd (own_ge own0)
  have z1 := b1.size
  obtain ⟨A2, c2, w2, hrun2, row2, hg2, -⟩ := run_app (P := Try.prog) w1 (ty := 24) (t := 24) Try.underlying24 elemC row1 (s2.below b1) (c := 32) (oneCell_bvs _) (by simp only [maxLen]; omega) (by omega) (by omega)
  have b2 : Below W.heap.size V w2 := b1.trans ((Below.refl _ w1).grown hg2 (by omega) (own_ge row1))
  have z2 := b2.size
  obtain ⟨A3, c3, w3, hrun3, row3, hg3, -⟩ := run_app (P := Try.prog) w2 (ty := 24) (t := 24) Try.underlying24 elemC row2 (s3.below b2) (c := 32) (oneCell_bvs _) (by simp only [maxLen]; omega) (by omega) (by omega)
  have b3 : Below W.heap.size V w3 := b2.trans ((Below.refl _ w2).grown hg3 (by omega) (own_ge row2))
  have eB : bvs hd ++ bvs src ++ bvs sty ++ bvs tre = bvs bs := by rw [hBy.out]; simp only [bvs_append, List.append_assoc]
  rw [eB] at row3
  have HO := Lib.hid (And.intro row3 (hBd.trans (b3.mono hwW)))
  replace hrun1 : (Builtin.append_ #[24, 24] 24 #[.slice (some ⟨W.heap.size, 0, none⟩) 5 5, .slice (some ⟨w.heap.size, 2, none⟩) 32 32]).run Try.prog V = .ok (.slice A1 37 c1) w1 := hrun1
  replace hrun2 : (Builtin.append_ #[24, 24] 24 #[.slice A1 37 c1, .slice (some ⟨w.heap.size, 34, none⟩) 32 32]).run Try.prog w1 = .ok (.slice A2 69 c2) w2 := hrun2
  replace hrun3 : (Builtin.append_ #[24, 24] 24 #[.slice A2 69 c2, .slice (some ⟨w.heap.size, 66, none⟩) 32 32]).run Try.prog w2 = .ok (.slice A3 101 c3) w3 := hrun3
  clear own0 s1 s2 s3 row1 row2 row3 hg1 hg2 hg3 b1 b2 b3 z1 z2 eB hBd hzd hwW
  let S : World → Prop := fun _ => True
  refine wp_region_held (S := S) (by kernel_rfl) ?_
  change wpAnyH _ _ _ _ S _ _ _ Wa.drew
  rw [hV]
  clear hV
  have hS0 : S V := trivial
  refine wpAnyH_take (i := 0) (oi := ?oi_264) (v := ?v_264) ?ho_264 ?h1_264 ?h2_264 ?h3_264 ?hq_264 (Or.inl ⟨?hw_264, ?hy_264⟩) ?hs_264 ?rest_264; (case h2_264 => kernel_rfl); (case h3_264 => kernel_rfl); (case ho_264 => (simp only [List.getElem?_toArray, List.getElem?_cons_zero, List.getElem?_cons_succ]; rfl)); (case h1_264 => kernel_rfl); (case hq_264 => exact fun _ _ _ h => h); (case hw_264 => rfl); (case hy_264 => (intro w' hSw; (try simp only [S] at hSw); go_simp; (try with_reducible rfl))); (case hs_264 => assumption); (try simp only [Act.put, List.setIfInBounds_toArray, List.set_cons_zero, List.set_cons_succ])
  refine wpAnyH_take (i := 1) (oi := ?oi_265) (v := ?v_265) ?ho_265 ?h1_265 ?h2_265 ?h3_265 ?hq_265 (Or.inl ⟨?hw_265, ?hy_265⟩) ?hs_265 ?rest_265; (case h2_265 => kernel_rfl); (case h3_265 => kernel_rfl); (case ho_265 => (simp only [List.getElem?_toArray, List.getElem?_cons_zero, List.getElem?_cons_succ]; rfl)); (case h1_265 => kernel_rfl); (case hq_265 => exact fun _ _ _ h => h); (case hw_265 => rfl); (case hy_265 => (intro w' hSw; (try simp only [S] at hSw); go_simp; (try with_reducible rfl))); (case hs_265 => assumption); (try simp only [Act.put, List.setIfInBounds_toArray, List.set_cons_zero, List.set_cons_succ])
  refine wpAnyH_take (i := 2) (oi := ?oi_266) (v := ?v_266) ?ho_266 ?h1_266 ?h2_266 ?h3_266 ?hq_266 (Or.inl ⟨?hw_266, ?hy_266⟩) ?hs_266 ?rest_266; (case h2_266 => kernel_rfl); (case h3_266 => kernel_rfl); (case ho_266 => (simp only [List.getElem?_toArray, List.getElem?_cons_zero, List.getElem?_cons_succ]; rfl)); (case h1_266 => kernel_rfl); (case hq_266 => exact fun _ _ _ h => h); (case hw_266 => rfl); (case hy_266 => (intro w' hSw; (try simp only [S] at hSw); go_simp; (try with_reducible rfl))); (case hs_266 => assumption); (try simp only [Act.put, List.setIfInBounds_toArray, List.set_cons_zero, List.set_cons_succ])
  refine wpAnyH_take (i := 4) (oi := ?oi_267) (v := ?v_267) ?ho_267 ?h1_267 ?h2_267 ?h3_267 ?hq_267 (Or.inl ⟨?hw_267, ?hy_267⟩) ?hs_267 ?rest_267; (case h2_267 => kernel_rfl); (case h3_267 => kernel_rfl); (case ho_267 => (simp only [List.getElem?_toArray, List.getElem?_cons_zero, List.getElem?_cons_succ]; rfl)); (case h1_267 => kernel_rfl); (case hq_267 => exact fun _ _ _ h => h); (case hw_267 => rfl); (case hy_267 => (intro w' hSw; (try simp only [S] at hSw); go_simp; (try with_reducible rfl))); (case hs_267 => assumption); (try simp only [Act.put, List.setIfInBounds_toArray, List.set_cons_zero, List.set_cons_succ])
  refine wpAnyH_take (i := 5) (oi := ?oi_268) (v := ?v_268) ?ho_268 ?h1_268 ?h2_268 ?h3_268 ?hq_268 (Or.inl ⟨?hw_268, ?hy_268⟩) ?hs_268 ?rest_268; (case h2_268 => kernel_rfl); (case h3_268 => kernel_rfl); (case ho_268 => (simp only [List.getElem?_toArray, List.getElem?_cons_zero, List.getElem?_cons_succ]; rfl)); (case h1_268 => kernel_rfl); (case hq_268 => exact fun _ _ _ h => h); (case hw_268 => rfl); (case hy_268 => (intro w' hSw; (try simp only [S] at hSw); go_simp; (try with_reducible rfl))); (case hs_268 => assumption); (try simp only [Act.put, List.setIfInBounds_toArray, List.set_cons_zero, List.set_cons_succ])
  refine wpAnyH_take (i := 7) (oi := ?oi_269) (v := ?v_269) ?ho_269 ?h1_269 ?h2_269 ?h3_269 ?hq_269 (Or.inl ⟨?hw_269, ?hy_269⟩) ?hs_269 ?rest_269; (case h2_269 => kernel_rfl); (case h3_269 => kernel_rfl); (case ho_269 => (simp only [List.getElem?_toArray, List.getElem?_cons_zero, List.getElem?_cons_succ]; rfl)); (case h1_269 => kernel_rfl); (case hq_269 => exact fun _ _ _ h => h); (case hw_269 => rfl); (case hy_269 => (intro w' hSw; (try simp only [S] at hSw); go_simp; (try with_reducible rfl))); (case hs_269 => assumption); (try simp only [Act.put, List.setIfInBounds_toArray, List.set_cons_zero, List.set_cons_succ])
  refine wpAnyH_take (i := 8) (oi := ?oi_270) (v := ?v_270) ?ho_270 ?h1_270 ?h2_270 ?h3_270 ?hq_270 (Or.inl ⟨?hw_270, ?hy_270⟩) ?hs_270 ?rest_270; (case h2_270 => kernel_rfl); (case h3_270 => kernel_rfl); (case ho_270 => (simp only [List.getElem?_toArray, List.getElem?_cons_zero, List.getElem?_cons_succ]; rfl)); (case h1_270 => kernel_rfl); (case hq_270 => exact fun _ _ _ h => h); (case hw_270 => rfl); (case hy_270 => (intro w' hSw; (try simp only [S] at hSw); go_simp; (try with_reducible rfl))); (case hs_270 => assumption); (try simp only [Act.put, List.setIfInBounds_toArray, List.set_cons_zero, List.set_cons_succ])
  refine wpAnyH_ready (rs := [3]) (by kernel_rfl) (by simp) (AllReadyH.cons (o := ?oo3_275) ?hoo3_275 (fun K hK => ?steponly275) AllReadyH.nil); (case hoo3_275 => (simp only [List.getElem?_toArray, List.getElem?_cons_zero, List.getElem?_cons_succ]; rfl))
  go_simp
  refine hK.out _ _ trivial (fun _ => ?_)
  clear hK K
  (try simp only [Act.put, List.setIfInBounds_toArray, List.set_cons_zero, List.set_cons_succ])
  refine wpAnyH_ready (rs := [6]) (by kernel_rfl) (by simp) (AllReadyH.cons (o := ?oo6_276) ?hoo6_276 (fun K hK => ?steponly276) AllReadyH.nil); (case hoo6_276 => (simp only [List.getElem?_toArray, List.getElem?_cons_zero, List.getElem?_cons_succ]; rfl))
  go_simp
  refine hK.out _ _ trivial (fun _ => ?_)
  clear hK K
  (try simp only [Act.put, List.setIfInBounds_toArray, List.set_cons_zero, List.set_cons_succ])
  refine wpAnyH_ready (rs := [9]) (by kernel_rfl) (by simp) (AllReadyH.cons (o := ?oo9_277) ?hoo9_277 (fun K hK => ?steponly277) AllReadyH.nil); (case hoo9_277 => (simp only [List.getElem?_toArray, List.getElem?_cons_zero, List.getElem?_cons_succ]; rfl))
  go_simp
  refine hK.out _ _ trivial (fun _ => ?_)
  clear hK K
  (try simp only [Act.put, List.setIfInBounds_toArray, List.set_cons_zero, List.set_cons_succ])
  refine wpAnyH_take (i := 10) (oi := ?oi_271) (v := ?v_271) ?ho_271 ?h1_271 ?h2_271 ?h3_271 ?hq_271 (Or.inl ⟨?hw_271, ?hy_271⟩) ?hs_271 ?rest_271; (case h2_271 => kernel_rfl); (case h3_271 => kernel_rfl); (case ho_271 => (simp only [List.getElem?_toArray, List.getElem?_cons_zero, List.getElem?_cons_succ]; rfl)); (case h1_271 => kernel_rfl); (case hq_271 => exact fun _ _ _ h => h); (case hw_271 => rfl); (case hy_271 => (intro w' hSw; (try simp only [S] at hSw); go_simp; (try with_reducible rfl))); (case hs_271 => assumption); (try simp only [Act.put, List.setIfInBounds_toArray, List.set_cons_zero, List.set_cons_succ])
  refine wpAnyH_take (i := 11) (oi := ?oi_272) (v := ?v_272) ?ho_272 ?h1_272 ?h2_272 ?h3_272 ?hq_272 (Or.inl ⟨?hw_272, ?hy_272⟩) ?hs_272 ?rest_272; (case h2_272 => kernel_rfl); (case h3_272 => kernel_rfl); (case ho_272 => (simp only [List.getElem?_toArray, List.getElem?_cons_zero, List.getElem?_cons_succ]; rfl)); (case h1_272 => kernel_rfl); (case hq_272 => exact fun _ _ _ h => h); (case hw_272 => rfl); (case hy_272 => (intro w' hSw; (try simp only [S] at hSw); go_simp; (try with_reducible rfl))); (case hs_272 => assumption); (try simp only [Act.put, List.setIfInBounds_toArray, List.set_cons_zero, List.set_cons_succ])
  refine wpAnyH_done (by kernel_rfl) ?_ _
  clear hrun1 hrun2 hrun3
  go_wp2_with fail
  go_ret2
  exact EncP.own hbl.symm HO.out.1 HO.out.2
theorem rev_any {r : RV} (hr : r.Ok) (w : World) : Calls Try.prog 20 #[rvv r] w (EncP w r.enc (erF r.good)) := by
  unfold RV.enc
  cases hg : r.good
  · exact rev_no hr hg w
  · exact rev_yes hr hg w
theorem rrev_any {r : RV} (hr : r.Ok) (w : World) : Calls Try.prog 21 #[rvv r] w (EncP w r.enc (erF r.good)) := by
  unfold RV.enc
  cases hg : r.good
  · exact rrev_no hr hg w
  · exact rrev_yes hr hg w
end Go.Proofs.Ytjfkaebikmnnaaa
