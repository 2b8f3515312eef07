/- sheet's reader: reader.line. -/
import Derived.Test.YtiffcdeagckgmaaDoorShRd
import Derived.Test.YtiffcdeagckgmaaDoorKeep
namespace Go.Proofs.YtiffcdeagckgmaaDoor
set_option linter.unusedSimpArgs false
set_option linter.unusedVariables false
open Go.RowKit Go.ChangeShapes Go.WideShapes Go.Sort Go.Deep
attribute [-go_sem] Builtin.append_

def at8 (l : List UInt8) (i : Nat) : UInt8 := l.getD i 0
/-- one more piece, if all is well so far -/
def stepP (s : List PC × RS) : List PC × RS :=
  if s.2.ok then
    (s.1 ++ [⟨((at8 (takeD 3 s.2).1 0).toNat * 256 + (at8 (takeD 3 s.2).1 1).toNat : Nat), ⟨(takeD (at8 (takeD 3 s.2).1 2).toNat (takeD 3 s.2).2).1.toArray⟩⟩], (takeD (at8 (takeD 3 s.2).1 2).toNat (takeD 3 s.2).2).2)
  else s
def rdPs : Nat → List PC × RS → List PC × RS
  | 0, s => s
  | n + 1, s => stepP (rdPs n s)
theorem rdPs_stop {s : List PC × RS} {j : Nat} (h : (rdPs j s).2.ok = false) : ∀ m, j ≤ m → rdPs m s = rdPs j s
  | 0, hm => by rw [Nat.le_zero.1 hm]
  | m + 1, hm => by
    rcases Nat.lt_or_ge m j with h1 | h1
    · rw [show j = m + 1 by omega]
    · have ih := rdPs_stop h m h1
      show stepP (rdPs m s) = _
      rw [ih, stepP, h]
      rfl
/-- the next line -/
def lineD (s : RS) : (LN × List PC) × RS :=
  ((⟨((at8 (takeD 2 s).1 0).toNat % 4 : Nat), (at8 (takeD 2 s).1 0).toNat / 4 % 2 == 1, (at8 (takeD 2 s).1 0).toNat / 8 % 2 == 1, (at8 (takeD 2 s).1 0).toNat / 16 % 2 == 1, .slice none 0 0⟩, (rdPs (at8 (takeD 2 s).1 1).toNat ([], (takeD 2 s).2)).1), (rdPs (at8 (takeD 2 s).1 1).toNat ([], (takeD 2 s).2)).2)
theorem Off.cellAt {w : World} {p k : Nat} {A : Option Addr} {l : List UInt8} (h : Off w p A k l) {b o : Nat} (hA : A = some ⟨b, o, none⟩) {i : Nat} (hi : i < k) : w.cell? ⟨b, o + i, none⟩ = some (.int .u8 ((at8 l i).toNat : Int)) := by
  obtain ⟨b', o', e, -, -, hr⟩ := h.at_ (by omega)
  rw [hA] at e
  cases e
  have hl := h.len
  exact hr i _ (by simp [bvs, bv, at8, hl, hi])
theorem or_join (i : Nat) {x y : Int} (hi : i ≤ 40) (hx₀ : 0 ≤ x) (hx : x % 2 ^ i = 0) (hx₁ : x < 4611686018427387904) (h₀ : 0 ≤ y) (h₁ : y < 2 ^ i) (h₂ : y < 4611686018427387904) : bits .or .i64 x y = x + y :=
  bits_join .i64 62 (by decide) (fun n a b => wrap_small n a (by omega)) i x y hx₀ hx (by omega) h₀ h₁ (by omega)
theorem or16 (x y : UInt8) : bits .or .i64 ((x.toNat : Int) * 256) (y.toNat : Int) = ((x.toNat * 256 + y.toNat : Nat) : Int) := by
  have h1 := x.toNat_lt
  have h2 := y.toNat_lt
  rw [or_join 8 (by omega) (by omega) (by omega) (by omega) (by omega) (by omega) (by omega)]
  omega
theorem and_bits : ∀ n : Fin 256, bits .and .i64 (n.val : Int) 3 = ((n.val % 4 : Nat) : Int) ∧ (bits .and .i64 (n.val : Int) 4 == 0) = !(n.val / 4 % 2 == 1) ∧ (bits .and .i64 (n.val : Int) 8 == 0) = !(n.val / 8 % 2 == 1) ∧ (bits .and .i64 (n.val : Int) 16 == 0) = !(n.val / 16 % 2 == 1) := by decide +kernel
theorem elemPc2 : Elem Tryd.prog 47 2 24 := elem_of (z := .agg #[.int .i64 0, .string ⟨#[]⟩]) (by kernel_rfl) rfl (by decide)
def LineP (w : World) (p : Nat) (s : RS) (e : Ending) (w' : World) : Prop :=
  ∃ A n c, e = .returned (.agg #[.int .i64 (lineD s).1.1.kind, .bool (lineD s).1.1.first, .bool (lineD s).1.1.last, .bool (lineD s).1.1.over, .slice A n c]) ∧ n = (lineD s).1.2.length ∧
    w'.ownsRow w.heap.size 47 2 (.slice A n c) n (pcs (lineD s).1.2) ∧ RdAt w' p (lineD s).2 ∧ But w.heap.size (· = p) w w'
theorem But.le {n m : Nat} {X : Nat → Prop} {w w' : World} (h : But n X w w') (hm : m ≤ n) : But m X w w' := ⟨h.os, h.tape, h.output, h.size, fun k hk hx => h.block k (by omega) hx⟩
theorem own_but {w w' : World} {base p : Nat} {e : TypeId} {size n : Nat} {v : Value} {xs : List Value} (h : w.ownsRow base e size v n xs) (hb : But w.heap.size (· = p) w w') (hp : p < base) : w'.ownsRow base e size v n xs := by
  refine ⟨h.1, ?_⟩
  rcases h.2 with h | ⟨g, cap, cur, h1, h2, h3, h4⟩
  · exact .inl h
  · exact .inr ⟨g, cap, cur, h1, h2, (hb.block g (Array.getElem?_eq_some_iff.1 h3).1 (by omega)).trans h3, h4⟩
theorem line_end {w wr : World} {p m c5 L : Nat} {A5 : Option Addr} {s st : RS} {cs : Array Value} {kd : Int} {f2 f3 f4 : Bool} {v : Value} {ps : List PC} (hD : lineD s = ((⟨kd, f2, f3, f4, v⟩, ps), st)) (hm : m = ps.length)
    (hown : wr.ownsRow (L + 1) 47 2 (.slice A5 m c5) m (pcs ps)) (hL : w.heap.size < L) (hrd : RdAt wr p st) (hb : But w.heap.size (· = p) w wr) (hp : p < w.heap.size) :
    LineP w p s (.returned (.agg #[.int .i64 kd, .bool f2, .bool f3, .bool f4, .slice A5 m c5])) (wr.setRow w.heap.size cs) := by
  rw [LineP, hD]
  have hB : Below w.heap.size wr (wr.setRow w.heap.size cs) := bSetRow (Below.refl _ _) (Nat.le_refl _) _
  refine ⟨A5, m, c5, rfl, hm, ⟨hown.1, ?_⟩, hrd.but (but_of (X := fun _ => False) hB) hp (fun k h => h.elim), hb.trans (but_of hB)⟩
  rcases hown.2 with h4 | ⟨q, cap, cur, e1, h5, h6, h7⟩
  · exact .inl h4
  · exact .inr ⟨q, cap, cur, e1, by omega, (setRow_other _ _ _ _ (by omega)).trans h6, h7⟩
theorem rdPs_more {s : List PC × RS} {j : Nat} {ps : List PC} {st : RS} (h1 : (rdPs j s).1 = ps) (h2 : (rdPs j s).2 = st) (h3 : st.ok = true) :
    rdPs (j + 1) s = (ps ++ [⟨((at8 (takeD 3 st).1 0).toNat * 256 + (at8 (takeD 3 st).1 1).toNat : Nat), ⟨(takeD (at8 (takeD 3 st).1 2).toNat (takeD 3 st).2).1.toArray⟩⟩], (takeD (at8 (takeD 3 st).1 2).toNat (takeD 3 st).2).2) := by
  show stepP (rdPs j s) = _
  unfold stepP
  rw [h1, h2, if_pos h3]
set_option maxRecDepth 100000 in
set_option maxHeartbeats 16000000 in
theorem line_any {p : Nat} {s : RS} (w : World) (h : RdAt w p s) :
    Calls Tryd.prog 23 #[.pointer (some ⟨p, 0, none⟩)] w (LineP w p s) := by
  have hT := fun (W : World) (q : RS) (hq : RdAt W p q) (k : Nat) (K : Int) (hK : (k : Int) = K) (hk : k ≤ 255) => (hK ▸ take_any (k := k) W hq hk : Calls Tryd.prog 22 #[.pointer (some ⟨p, 0, none⟩), .int .i64 K] W (TakeP W p k q))
  have HT := Lib.hid hT
  clear hT
  have hpw := h.lt
  have HR := Lib.hid h
  clear h
  go_enter Tryd.func23, Tryd.ntmps23
  obtain ⟨W0, hW0⟩ : ∃ q, w.alloc (.cells #[.int .i64 0, .bool false, .bool false, .bool false, .slice none 0 0] 45) = q := ⟨_, rfl⟩
  have r0 : W0.heap[w.heap.size]? = some (.cells #[.int .i64 0, .bool false, .bool false, .bool false, .slice none 0 0] 45) := by rw [← hW0]; exact heap_alloc_new _ _
  have b0 : Below w.heap.size w W0 := by rw [← hW0]; exact (Below.refl _ _).alloc (Nat.le_refl _) _
  have hz0 : w.heap.size < W0.heap.size := (Array.getElem?_eq_some_iff.1 r0).1
  have HW0 := Lib.hid hW0
  clear hW0
  go_wp2_with fail
  rw [HW0.out]
  clear HW0
  refine Calls.mono (HT.out W0 s (HR.out.next b0) 2 2 rfl (by omega)) ?_
  rintro e w1 ⟨A1, c1, rfl, hof, hrd, hbt, hc1, -, -⟩
  obtain ⟨b, o, rfl, hbp, hbl, -⟩ := hof.at_ (by omega)
  have m0 := hof.cellAt rfl (i := 0) (by omega)
  have m1 := hof.cellAt rfl (i := 1) (by omega)
  obtain ⟨x0, hx0⟩ : ∃ q, at8 (takeD 2 s).1 0 = q := ⟨_, rfl⟩
  obtain ⟨x1, hx1⟩ : ∃ q, at8 (takeD 2 s).1 1 = q := ⟨_, rfl⟩
  rw [hx0] at m0
  rw [hx1] at m1
  rw [Nat.add_zero] at m0
  obtain ⟨S1, hS1⟩ : ∃ q, (takeD 2 s).2 = q := ⟨_, rfl⟩
  rw [hS1] at hrd
  have l0 := x0.toNat_lt
  have l1 := x1.toNat_lt
  obtain ⟨q1, q2, q3, q4⟩ := and_bits ⟨x0.toNat, by omega⟩
  simp only at q1 q2 q3 q4
  have r1 := hbt.blk hz0 (by omega) r0
  have hwB : But w.heap.size (· = p) w w1 := (but_of b0).trans ⟨hbt.os, hbt.tape, hbt.output, hbt.size, fun k hk hx => hbt.block k (by omega) hx⟩
  have HX := Lib.hid (And.intro hx0 (And.intro hx1 (And.intro hS1 (And.intro hrd (And.intro r1 hwB)))))
  clear hx0 hx1 hS1 hrd r0 r1 hwB hof hbt b0
  obtain ⟨v1, hv1⟩ : ∃ q, bits .and .i64 (x0.toNat : Int) 3 = q := ⟨_, rfl⟩
  obtain ⟨v2, hv2⟩ : ∃ q, bits .and .i64 (x0.toNat : Int) 4 = q := ⟨_, rfl⟩
  obtain ⟨v3, hv3⟩ : ∃ q, bits .and .i64 (x0.toNat : Int) 8 = q := ⟨_, rfl⟩
  obtain ⟨v4, hv4⟩ : ∃ q, bits .and .i64 (x0.toNat : Int) 16 = q := ⟨_, rfl⟩
  rw [hv1] at q1
  rw [hv2] at q2
  rw [hv3] at q3
  rw [hv4] at q4
  go_upto_region 4 with (fail)
  have e2 : (v2 != 0) = (x0.toNat / 4 % 2 == 1) := by rw [bne, q2, Bool.not_not]
  have e3 : (v3 != 0) = (x0.toNat / 8 % 2 == 1) := by rw [bne, q3, Bool.not_not]
  have e4 : (v4 != 0) = (x0.toNat / 16 % 2 == 1) := by rw [bne, q4, Bool.not_not]
  rw [e2, e3, e4]
  obtain ⟨f2, hf2⟩ : ∃ q, (x0.toNat / 4 % 2 == 1) = q := ⟨_, rfl⟩
  obtain ⟨f3, hf3⟩ : ∃ q, (x0.toNat / 8 % 2 == 1) = q := ⟨_, rfl⟩
  obtain ⟨f4, hf4⟩ : ∃ q, (x0.toNat / 16 % 2 == 1) = q := ⟨_, rfl⟩
  obtain ⟨kd, hkd⟩ : ∃ q : Int, ((x0.toNat : Int) % 4) = q := ⟨_, rfl⟩
  rw [hf2, hf3, hf4, hkd]
  have HF := Lib.hid (And.intro hf2 (And.intro hf3 (And.intro hf4 hkd)))
  clear hf2 hf3 hf4 hkd e2 e3 e4 q1 q2 q3 q4 hv1 hv2 hv3 hv4
  obtain ⟨W2, hW2⟩ : ∃ q, w1.alloc (.cells #[.int .i64 kd, .bool f2, .bool f3, .bool f4, .slice none 0 0] 45) = q := ⟨_, rfl⟩
  rw [hW2]
  obtain ⟨hx0, hx1, hS1, hrd, r1, hwB⟩ := HX.out
  have rL : W2.heap[w1.heap.size]? = some (.cells #[.int .i64 kd, .bool f2, .bool f3, .bool f4, .slice none 0 0] 45) := by rw [← hW2]; exact heap_alloc_new _ _
  have b2 : Below w1.heap.size w1 W2 := by rw [← hW2]; exact (Below.refl _ _).alloc (Nat.le_refl _) _
  clear hW2
  have m1 : W2.cell? ⟨b, o + 1, none⟩ = some (.int .u8 (x1.toNat : Int)) := (b2.cell (p := ⟨b, o + 1, none⟩) hbl).trans m1
  have r2 := bBlk b2 (Array.getElem?_eq_some_iff.1 r1).1 r1
  have hpw1 := hrd.lt
  have hrd2 := hrd.next b2
  have hwB2 : But w.heap.size (· = p) w W2 := hwB.trans (but_of (b2.mono hwB.size))
  have hwl : w.heap.size < w1.heap.size := (Array.getElem?_eq_some_iff.1 r1).1
  obtain ⟨L, hL⟩ : ∃ q, w1.heap.size = q := ⟨_, rfl⟩
  rw [hL] at rL hwl hpw1 ⊢
  have hLW := (Array.getElem?_eq_some_iff.1 rL).1
  have HY := Lib.hid (And.intro rL (And.intro r2 (And.intro hrd2 hwB2)))
  clear hx0 hx1 hS1 hrd r1 hwB rL r2 hrd2 hwB2 b2 hL m0 hbl
  have hn255 : x1.toNat ≤ 255 := by omega
  go_wp2_with fail
  obtain ⟨n1, hn1⟩ : ∃ q, x1.toNat = q := ⟨_, rfl⟩
  rw [hn1] at hn255 ⊢
  have hD : ∀ ps st, rdPs n1 ([], S1) = (ps, st) → lineD s = ((⟨kd, f2, f3, f4, .slice none 0 0⟩, ps), st) := fun ps st he => by
    have h1 := HX.out
    have h2 := HF.out
    unfold lineD
    rw [h1.1, h1.2.1, h1.2.2.1, h2.1, h2.2.1, h2.2.2.1, hn1, he, ← h2.2.2.2]
    rfl
  have HD := Lib.hid hD
  clear hn1 m1 l0 l1 hD
  go_loopw [6, 29] (fun s6 s29 wr => ∃ (j m : Nat) (A5 : Option Addr) (c5 : Nat), j ≤ n1 ∧ m ≤ j ∧ s29 = .int .i64 j ∧ wr.heap[L]? = some (.cells #[.int .i64 kd, .bool f2, .bool f3, .bool f4, .slice A5 m c5] 45) ∧ Hid (m = (rdPs j ([], S1)).1.length ∧ wr.ownsRow (L + 1) 47 2 (.slice A5 m c5) m (pcs (rdPs j ([], S1)).1) ∧ RdAt wr p (rdPs j ([], S1)).2 ∧ But w.heap.size (· = p) w wr ∧ wr.heap[w.heap.size]? = some (.cells #[.int .i64 0, .bool false, .bool false, .bool false, .slice none 0 0] 45))) (fun _ q _ => n1 - (intOf q).toNat)
  case atStart => exact ⟨0, 0, none, 0, by omega, by omega, rfl, HY.out.1, Lib.hid ⟨rfl, World.ownsRow_nil _ _ _ _, HY.out.2.2.1, HY.out.2.2.2, HY.out.2.1⟩⟩
  case round =>
    obtain ⟨j, m, A5, c5, hj, hm, rfl, hrL, HI⟩ := hrel
    by_cases hlt : j < n1
    · have g4 : (j : Int) < n1 := by omega
      obtain ⟨Ar, nr, cr, t1, t2, t3, t4, t5⟩ := HI.out.2.2.1.at_
      obtain ⟨ps, hps⟩ : ∃ q, (rdPs j ([], S1)).1 = q := ⟨_, rfl⟩
      obtain ⟨st, hst⟩ : ∃ q, (rdPs j ([], S1)).2 = q := ⟨_, rfl⟩
      rw [hst] at t1
      have k1 : wr.cell? ⟨p, 1, none⟩ = some (.bool st.ok) := blk_cell t1 rfl
      clear t1 t2 t3 t4 t5
      have hplt := HI.out.2.2.1.lt
      cases hok : st.ok
      · rw [hok] at k1
        have HQ := Lib.hid (And.intro hps (And.intro hst hok))
        clear hps hst hok
        have jx : (Tryd.prog.info? 45).map (·.size) = some (#[Value.int .i64 kd, .bool f2, .bool f3, .bool f4, .slice A5 m c5] : Array Value).size := ln_size
        have r0 := HI.out.2.2.2.2
        go_upto_region 10 with (fail)
        refine wp_region_lit ?_
        refine wpList_load_row rfl 45 (.tmp 5) rfl _ rfl _ #[.int .i64 kd, .bool f2, .bool f3, .bool f4, .slice A5 m c5] (0, 0) _ hrL Tryd.underlying45 rfl jx ?_
        (try simp only [Act.put, List.setIfInBounds_toArray, List.set_cons_zero, List.set_cons_succ])
        refine wpList_store_row rfl 45 (.tmp 2) (.tmp 62) rfl _ #[.int .i64 kd, .bool f2, .bool f3, .bool f4, .slice A5 m c5] rfl rfl _ _ r0 jx rfl (one_ln (x := ⟨kd, f2, f3, f4, .slice A5 m c5⟩) rfl) ?_
        (try simp only [Act.put, List.setIfInBounds_toArray, List.set_cons_zero, List.set_cons_succ])
        have x0 : (wr.setRow w.heap.size #[Value.int .i64 kd, .bool f2, .bool f3, .bool f4, .slice A5 m c5]).heap[w.heap.size]? = some (.cells #[Value.int .i64 kd, .bool f2, .bool f3, .bool f4, .slice A5 m c5] 45) := setRow_heap _ _ _ _ _ _ r0
        clear r0 hrL
        go_wp2_with fail
        refine bodyPost_ret (results_cell_row Tryd.results23 _ _ w.heap.size 45 _ (0, 0) _ ?_ x0 Tryd.underlying45 rfl jx) rfl ?_
        · rfl
        have e1 : rdPs n1 ([], S1) = (ps, st) := by rw [rdPs_stop (j := j) (by rw [HQ.out.2.1]; exact HQ.out.2.2) n1 hj, ← HQ.out.1, ← HQ.out.2.1]
        have e2 := HI.out
        rw [HQ.out.1, HQ.out.2.1] at e2
        exact line_end (HD.out ps st e1) e2.1 e2.2.1 hwl e2.2.2.1 e2.2.2.2.1 hpw
      · rw [hok] at k1
        have HQ := Lib.hid (And.intro hps (And.intro hst hok))
        clear hps hst hok
        have e2 := HI.out
        rw [HQ.out.1, HQ.out.2.1] at e2
        obtain ⟨hml, hown, hrd, hbw, r0⟩ := e2
        have hwr := hbw.size
        have hLr := (Array.getElem?_eq_some_iff.1 hrL).1
        have HE := Lib.hid (And.intro hml (And.intro hown (And.intro hrd (And.intro hbw (And.intro r0 hrL)))))
        clear hml hown hrd hbw r0 hrL
        go_wp2_with fail
        refine Calls.mono (HT.out wr st HE.out.2.2.1 3 3 rfl (by omega)) ?_
        rintro e w7 ⟨A6, c6, rfl, hof, hrd7, hbt, hc6, -, hfr⟩
        obtain ⟨hml, hown, -, hbw, r0, hrL⟩ := HE.out
        have rL7 := hbt.blk hLr (by omega) hrL
        have r07 := hbt.blk (Array.getElem?_eq_some_iff.1 r0).1 (by omega) r0
        have hown7 := own_but hown hbt (by omega)
        have hbw7 := hbw.trans (hbt.le hwr)
        obtain ⟨b6, o6, rfl, hbp6, hbl6, -⟩ := hof.at_ (by omega)
        have hfr6 := hfr b6 o6 (by omega) rfl
        have hlt5 := fun q hq => (hown.lt q hq).2
        clear hfr
        have n0 := hof.cellAt rfl (i := 0) (by omega)
        have n1' := hof.cellAt rfl (i := 1) (by omega)
        have n2 := hof.cellAt rfl (i := 2) (by omega)
        rw [Nat.add_zero] at n0
        obtain ⟨y0, hy0⟩ : ∃ q, at8 (takeD 3 st).1 0 = q := ⟨_, rfl⟩
        obtain ⟨y1, hy1⟩ : ∃ q, at8 (takeD 3 st).1 1 = q := ⟨_, rfl⟩
        obtain ⟨y2, hy2⟩ : ∃ q, at8 (takeD 3 st).1 2 = q := ⟨_, rfl⟩
        obtain ⟨st3, hst3⟩ : ∃ q, (takeD 3 st).2 = q := ⟨_, rfl⟩
        rw [hy0] at n0
        rw [hy1] at n1'
        rw [hy2] at n2
        rw [hst3] at hrd7
        have c4 : w7.cell? ⟨L, 4, none⟩ = some (.slice A5 m c5) := blk_cell rL7 rfl
        have hL7 := (Array.getElem?_eq_some_iff.1 rL7).1
        have l0 := y0.toNat_lt
        have l1 := y1.toNat_lt
        have l2 := y2.toNat_lt
        have hor := or16 y0 y1
        obtain ⟨X, hX⟩ : ∃ q, y0.toNat * 256 + y1.toNat = q := ⟨_, rfl⟩
        rw [hX] at hor
        let S : World → Prop := fun w' => w'.cell? ⟨L, 4, none⟩ = some (.slice A5 m c5) ∧ w'.cell? ⟨b6, o6, none⟩ = some (.int .u8 (y0.toNat : Int)) ∧ w'.cell? ⟨b6, o6 + 1, none⟩ = some (.int .u8 (y1.toNat : Int)) ∧ w'.cell? ⟨b6, o6 + 2, none⟩ = some (.int .u8 (y2.toNat : Int))
        have hSS : ∀ w', But w7.heap.size (· = p) w7 w' → S w' := fun w' hb =>
          ⟨(World.cell?_of_block (a := ⟨L, 4, none⟩) (hb.block L hL7 (by omega))).trans c4, (World.cell?_of_block (a := ⟨b6, o6, none⟩) (hb.block b6 hbl6 hbp6)).trans n0, (World.cell?_of_block (a := ⟨b6, o6 + 1, none⟩) (hb.block b6 hbl6 hbp6)).trans n1', (World.cell?_of_block (a := ⟨b6, o6 + 2, none⟩) (hb.block b6 hbl6 hbp6)).trans n2⟩
        have hS0 : S w7.drew := hSS _ (But.refl _ _ _).drew
        have HZ := Lib.hid (And.intro hml (And.intro rL7 (And.intro r07 (And.intro hown7 (And.intro hbw7 (And.intro hrd7 (And.intro hy0 (And.intro hy1 (And.intro hy2 (And.intro hst3 hX))))))))))
        have HS := Lib.hid hSS
        clear hml hown hbw r0 hrL rL7 r07 hown7 hbw7 hrd7 hy0 hy1 hy2 hst3 hX hof hbt n0 n1' n2 c4 hSS
        go_upto_region 8 with (fail)
        have g0 : IntKind.i64.wrap (y0.toNat : Int) = (y0.toNat : Int) := wrap_small _ (by omega) (by omega)
        have g1 : IntKind.i64.wrap (y1.toNat : Int) = (y1.toNat : Int) := wrap_small _ (by omega) (by omega)
        have g2 : IntKind.i64.wrap (y2.toNat : Int) = (y2.toNat : Int) := wrap_small _ (by omega) (by omega)
        have g3 : IntKind.i64.wrap ((y0.toNat : Int) * 256) = (y0.toNat : Int) * 256 := wrap_small _ (by omega) (by omega)
        refine wp_region_E (S := S) 23 (by kernel_rfl) ?_
        change wpAnyE _ _ _ _ S _ _ _ _ w7.drew
        refine wpAnyE_take (i := 0) (oi := ?oi_1) (v := ?v_1) ?ho_1 ?h1_1 ?h2_1 ?h3_1 ?hq_1 (Or.inl ⟨?hw_1, ?hy_1⟩) ?hs_1 ?rest_1; (case h2_1 => kernel_rfl); (case h3_1 => kernel_rfl); (case ho_1 => (simp only [List.getElem?_toArray, List.getElem?_cons_zero, List.getElem?_cons_succ]; rfl)); (case h1_1 => kernel_rfl); (case hq_1 => exact fun _ _ _ h => h); (case hw_1 => rfl); (case hy_1 => (intro w' hSw; (try simp only [S] at hSw); go_simp; (try with_reducible rfl))); (case hs_1 => assumption); (try simp only [Act.put, List.setIfInBounds_toArray, List.set_cons_zero, List.set_cons_succ])
        refine wpAnyE_take (i := 1) (oi := ?oi_2) (v := ?v_2) ?ho_2 ?h1_2 ?h2_2 ?h3_2 ?hq_2 (Or.inl ⟨?hw_2, ?hy_2⟩) ?hs_2 ?rest_2; (case h2_2 => kernel_rfl); (case h3_2 => kernel_rfl); (case ho_2 => (simp only [List.getElem?_toArray, List.getElem?_cons_zero, List.getElem?_cons_succ]; rfl)); (case h1_2 => kernel_rfl); (case hq_2 => exact fun _ _ _ h => h); (case hw_2 => rfl); (case hy_2 => (intro w' hSw; (try simp only [S] at hSw); go_simp; (try with_reducible rfl))); (case hs_2 => assumption); (try simp only [Act.put, List.setIfInBounds_toArray, List.set_cons_zero, List.set_cons_succ])
        refine wpAnyE_take (i := 2) (oi := ?oi_3) (v := ?v_3) ?ho_3 ?h1_3 ?h2_3 ?h3_3 ?hq_3 (Or.inl ⟨?hw_3, ?hy_3⟩) ?hs_3 ?rest_3; (case h2_3 => kernel_rfl); (case h3_3 => kernel_rfl); (case ho_3 => (simp only [List.getElem?_toArray, List.getElem?_cons_zero, List.getElem?_cons_succ]; rfl)); (case h1_3 => kernel_rfl); (case hq_3 => exact fun _ _ _ h => h); (case hw_3 => rfl); (case hy_3 => (intro w' hSw; (try simp only [S] at hSw); go_simp; (try with_reducible rfl))); (case hs_3 => assumption); (try simp only [Act.put, List.setIfInBounds_toArray, List.set_cons_zero, List.set_cons_succ])
        refine wpAnyE_take (i := 3) (oi := ?oi_4) (v := ?v_4) ?ho_4 ?h1_4 ?h2_4 ?h3_4 ?hq_4 (Or.inl ⟨?hw_4, ?hy_4⟩) ?hs_4 ?rest_4; (case h2_4 => kernel_rfl); (case h3_4 => kernel_rfl); (case ho_4 => (simp only [List.getElem?_toArray, List.getElem?_cons_zero, List.getElem?_cons_succ]; rfl)); (case h1_4 => kernel_rfl); (case hq_4 => exact fun _ _ _ h => h); (case hw_4 => rfl); (case hy_4 => (intro w' hSw; (try simp only [S] at hSw); go_simp; (try with_reducible rfl))); (case hs_4 => assumption); (try simp only [Act.put, List.setIfInBounds_toArray, List.set_cons_zero, List.set_cons_succ])
        refine wpAnyE_take (i := 4) (oi := ?oi_5) (v := ?v_5) ?ho_5 ?h1_5 ?h2_5 ?h3_5 ?hq_5 (Or.inl ⟨?hw_5, ?hy_5⟩) ?hs_5 ?rest_5; (case h2_5 => kernel_rfl); (case h3_5 => kernel_rfl); (case ho_5 => (simp only [List.getElem?_toArray, List.getElem?_cons_zero, List.getElem?_cons_succ]; rfl)); (case h1_5 => kernel_rfl); (case hq_5 => exact fun _ _ _ h => h); (case hw_5 => rfl); (case hy_5 => (intro w' hSw; (try simp only [S] at hSw); go_simp; (try with_reducible rfl))); (case hs_5 => assumption); (try simp only [Act.put, List.setIfInBounds_toArray, List.set_cons_zero, List.set_cons_succ])
        refine wpAnyE_take (i := 5) (oi := ?oi_6) (v := ?v_6) ?ho_6 ?h1_6 ?h2_6 ?h3_6 ?hq_6 (Or.inl ⟨?hw_6, ?hy_6⟩) ?hs_6 ?rest_6; (case h2_6 => kernel_rfl); (case h3_6 => kernel_rfl); (case ho_6 => (simp only [List.getElem?_toArray, List.getElem?_cons_zero, List.getElem?_cons_succ]; rfl)); (case h1_6 => kernel_rfl); (case hq_6 => exact fun _ _ _ h => h); (case hw_6 => rfl); (case hy_6 => (intro w' hSw; (try simp only [S] at hSw); go_simp; (try with_reducible rfl))); (case hs_6 => assumption); (try simp only [Act.put, List.setIfInBounds_toArray, List.set_cons_zero, List.set_cons_succ])
        refine wpAnyE_take (i := 6) (oi := ?oi_7) (v := ?v_7) ?ho_7 ?h1_7 ?h2_7 ?h3_7 ?hq_7 (Or.inl ⟨?hw_7, ?hy_7⟩) ?hs_7 ?rest_7; (case h2_7 => kernel_rfl); (case h3_7 => kernel_rfl); (case ho_7 => (simp only [List.getElem?_toArray, List.getElem?_cons_zero, List.getElem?_cons_succ]; rfl)); (case h1_7 => kernel_rfl); (case hq_7 => exact fun _ _ _ h => h); (case hw_7 => rfl); (case hy_7 => (intro w' hSw; (try simp only [S] at hSw); go_simp; (try with_reducible rfl))); (case hs_7 => assumption); (try simp only [Act.put, List.setIfInBounds_toArray, List.set_cons_zero, List.set_cons_succ])
        refine wpAnyE_take (i := 7) (oi := ?oi_8) (v := ?v_8) ?ho_8 ?h1_8 ?h2_8 ?h3_8 ?hq_8 (Or.inl ⟨?hw_8, ?hy_8⟩) ?hs_8 ?rest_8; (case h2_8 => kernel_rfl); (case h3_8 => kernel_rfl); (case ho_8 => (simp only [List.getElem?_toArray, List.getElem?_cons_zero, List.getElem?_cons_succ]; rfl)); (case h1_8 => kernel_rfl); (case hq_8 => exact fun _ _ _ h => h); (case hw_8 => rfl); (case hy_8 => (intro w' hSw; (try simp only [S] at hSw); go_simp; (try with_reducible rfl))); (case hs_8 => assumption); (try simp only [Act.put, List.setIfInBounds_toArray, List.set_cons_zero, List.set_cons_succ])
        refine wpAnyE_take (i := 8) (oi := ?oi_9) (v := ?v_9) ?ho_9 ?h1_9 ?h2_9 ?h3_9 ?hq_9 (Or.inl ⟨?hw_9, ?hy_9⟩) ?hs_9 ?rest_9; (case h2_9 => kernel_rfl); (case h3_9 => kernel_rfl); (case ho_9 => (simp only [List.getElem?_toArray, List.getElem?_cons_zero, List.getElem?_cons_succ]; rfl)); (case h1_9 => kernel_rfl); (case hq_9 => exact fun _ _ _ h => h); (case hw_9 => rfl); (case hy_9 => (intro w' hSw; (try simp only [S] at hSw); go_simp; (try with_reducible rfl))); (case hs_9 => assumption); (try simp only [Act.put, List.setIfInBounds_toArray, List.set_cons_zero, List.set_cons_succ])
        refine wpAnyE_take (i := 9) (oi := ?oi_10) (v := ?v_10) ?ho_10 ?h1_10 ?h2_10 ?h3_10 ?hq_10 (Or.inl ⟨?hw_10, ?hy_10⟩) ?hs_10 ?rest_10; (case h2_10 => kernel_rfl); (case h3_10 => kernel_rfl); (case ho_10 => (simp only [List.getElem?_toArray, List.getElem?_cons_zero, List.getElem?_cons_succ]; rfl)); (case h1_10 => kernel_rfl); (case hq_10 => exact fun _ _ _ h => h); (case hw_10 => rfl); (case hy_10 => (intro w' hSw; (try simp only [S] at hSw); go_simp; (try with_reducible rfl))); (case hs_10 => assumption); (try simp only [Act.put, List.setIfInBounds_toArray, List.set_cons_zero, List.set_cons_succ])
        refine wpAnyE_take (i := 10) (oi := ?oi_11) (v := ?v_11) ?ho_11 ?h1_11 ?h2_11 ?h3_11 ?hq_11 (Or.inl ⟨?hw_11, ?hy_11⟩) ?hs_11 ?rest_11; (case h2_11 => kernel_rfl); (case h3_11 => kernel_rfl); (case ho_11 => (simp only [List.getElem?_toArray, List.getElem?_cons_zero, List.getElem?_cons_succ]; rfl)); (case h1_11 => kernel_rfl); (case hq_11 => exact fun _ _ _ h => h); (case hw_11 => rfl); (case hy_11 => (intro w' hSw; (try simp only [S] at hSw); go_simp; (try with_reducible rfl))); (case hs_11 => assumption); (try simp only [Act.put, List.setIfInBounds_toArray, List.set_cons_zero, List.set_cons_succ])
        refine wpAnyE_take (i := 11) (oi := ?oi_12) (v := ?v_12) ?ho_12 ?h1_12 ?h2_12 ?h3_12 ?hq_12 (Or.inl ⟨?hw_12, ?hy_12⟩) ?hs_12 ?rest_12; (case h2_12 => kernel_rfl); (case h3_12 => kernel_rfl); (case ho_12 => (simp only [List.getElem?_toArray, List.getElem?_cons_zero, List.getElem?_cons_succ]; rfl)); (case h1_12 => kernel_rfl); (case hq_12 => exact fun _ _ _ h => h); (case hw_12 => rfl); (case hy_12 => (intro w' hSw; (try simp only [S] at hSw); go_simp; (try with_reducible rfl))); (case hs_12 => assumption); (try simp only [Act.put, List.setIfInBounds_toArray, List.set_cons_zero, List.set_cons_succ])
        refine wpAnyE_take (i := 12) (oi := ?oi_13) (v := ?v_13) ?ho_13 ?h1_13 ?h2_13 ?h3_13 ?hq_13 (Or.inl ⟨?hw_13, ?hy_13⟩) ?hs_13 ?rest_13; (case h2_13 => kernel_rfl); (case h3_13 => kernel_rfl); (case ho_13 => (simp only [List.getElem?_toArray, List.getElem?_cons_zero, List.getElem?_cons_succ]; rfl)); (case h1_13 => kernel_rfl); (case hq_13 => exact fun _ _ _ h => h); (case hw_13 => rfl); (case hy_13 => (intro w' hSw; (try simp only [S] at hSw); go_simp; (try with_reducible rfl))); (case hs_13 => assumption); (try simp only [Act.put, List.setIfInBounds_toArray, List.set_cons_zero, List.set_cons_succ])
        refine wpAnyE_take (i := 13) (oi := ?oi_14) (v := ?v_14) ?ho_14 ?h1_14 ?h2_14 ?h3_14 ?hq_14 (Or.inl ⟨?hw_14, ?hy_14⟩) ?hs_14 ?rest_14; (case h2_14 => kernel_rfl); (case h3_14 => kernel_rfl); (case ho_14 => (simp only [List.getElem?_toArray, List.getElem?_cons_zero, List.getElem?_cons_succ]; rfl)); (case h1_14 => kernel_rfl); (case hq_14 => exact fun _ _ _ h => h); (case hw_14 => rfl); (case hy_14 => (intro w' hSw; (try simp only [S] at hSw); go_simp; (try with_reducible rfl))); (case hs_14 => assumption); (try simp only [Act.put, List.setIfInBounds_toArray, List.set_cons_zero, List.set_cons_succ])
        refine wpAnyE_take (i := 14) (oi := ?oi_15) (v := ?v_15) ?ho_15 ?h1_15 ?h2_15 ?h3_15 ?hq_15 (Or.inl ⟨?hw_15, ?hy_15⟩) ?hs_15 ?rest_15; (case h2_15 => kernel_rfl); (case h3_15 => kernel_rfl); (case ho_15 => (simp only [List.getElem?_toArray, List.getElem?_cons_zero, List.getElem?_cons_succ]; rfl)); (case h1_15 => kernel_rfl); (case hq_15 => exact fun _ _ _ h => h); (case hw_15 => rfl); (case hy_15 => (intro w' hSw; (try simp only [S] at hSw); go_simp; (try with_reducible rfl))); (case hs_15 => assumption); (try simp only [Act.put, List.setIfInBounds_toArray, List.set_cons_zero, List.set_cons_succ])
        refine wpAnyE_take (i := 15) (oi := ?oi_16) (v := ?v_16) ?ho_16 ?h1_16 ?h2_16 ?h3_16 ?hq_16 (Or.inl ⟨?hw_16, ?hy_16⟩) ?hs_16 ?rest_16; (case h2_16 => kernel_rfl); (case h3_16 => kernel_rfl); (case ho_16 => (simp only [List.getElem?_toArray, List.getElem?_cons_zero, List.getElem?_cons_succ]; rfl)); (case h1_16 => kernel_rfl); (case hq_16 => exact fun _ _ _ h => h); (case hw_16 => rfl); (case hy_16 => (intro w' hSw; (try simp only [S] at hSw); go_simp; (try with_reducible rfl))); (case hs_16 => assumption); (try simp only [Act.put, List.setIfInBounds_toArray, List.set_cons_zero, List.set_cons_succ])
        refine wpAnyE_take (i := 16) (oi := ?oi_17) (v := ?v_17) ?ho_17 ?h1_17 ?h2_17 ?h3_17 ?hq_17 (Or.inl ⟨?hw_17, ?hy_17⟩) ?hs_17 ?rest_17; (case h2_17 => kernel_rfl); (case h3_17 => kernel_rfl); (case ho_17 => (simp only [List.getElem?_toArray, List.getElem?_cons_zero, List.getElem?_cons_succ]; rfl)); (case h1_17 => kernel_rfl); (case hq_17 => exact fun _ _ _ h => h); (case hw_17 => rfl); (case hy_17 => (intro w' hSw; (try simp only [S] at hSw); go_simp; (try with_reducible rfl))); (case hs_17 => assumption); (try simp only [Act.put, List.setIfInBounds_toArray, List.set_cons_zero, List.set_cons_succ])
        refine wpAnyE_ready (rs := [17]) (by kernel_rfl) (by simp) (AllReadyE.cons (o := ?oo17_20) ?hoo17_20 (fun K hK => ?steponly20) AllReadyE.nil); (case hoo17_20 => (simp only [List.getElem?_toArray, List.getElem?_cons_zero, List.getElem?_cons_succ]; rfl))
        go_simp
        refine Calls.mono (HT.out w7.drew st3 (HZ.out.2.2.2.2.2.1.next (Below.refl _ _).drew) y2.toNat _ rfl (by omega)) ?_
        clear g0 g1 g2 g3 hor
        rintro e w17 ⟨A17, c17, rfl, hof17, hrd17, hbt17, hc17, -, -⟩
        have hb17 : But w7.heap.size (· = p) w7 w17 := (But.refl _ _ _).drew.trans hbt17
        obtain ⟨tx, htx⟩ : ∃ q, (takeD y2.toNat st3).1 = q := ⟨_, rfl⟩
        obtain ⟨st7, hst7⟩ : ∃ q, (takeD y2.toNat st3).2 = q := ⟨_, rfl⟩
        rw [htx] at hof17
        rw [hst7] at hrd17
        have hS17 : S w17 := HS.out _ hb17
        refine hK.out _ _ (fun _ => hS17) (fun _ => ?_)
        clear hK K
        (try simp only [Act.put, List.setIfInBounds_toArray, List.set_cons_zero, List.set_cons_succ])
        have hcv := run_str (P := Tryd.prog) (dst := 9) hof17.sl c17 Tryd.underlying25 Tryd.underlying5 Tryd.underlying9
        refine wpAnyE_ready (rs := [18]) (by kernel_rfl) (by simp) (AllReadyE.cons (o := ?oo18_21) ?hoo18_21 (fun K hK => ?steponly21) AllReadyE.nil); (case hoo18_21 => (simp only [List.getElem?_toArray, List.getElem?_cons_zero, List.getElem?_cons_succ]; rfl))
        go_simp
        refine hK.out _ _ (fun _ => HS.out _ hb17) (fun _ => ?_)
        clear hK K
        (try simp only [Act.put, List.setIfInBounds_toArray, List.set_cons_zero, List.set_cons_succ])
        clear hcv
        refine wpAnyE_take (i := 19) (oi := ?oi_18) (v := ?v_18) ?ho_18 ?h1_18 ?h2_18 ?h3_18 ?hq_18 (Or.inl ⟨?hw_18, ?hy_18⟩) ?hs_18 ?rest_18; (case h2_18 => kernel_rfl); (case h3_18 => kernel_rfl); (case ho_18 => (simp only [List.getElem?_toArray, List.getElem?_cons_zero, List.getElem?_cons_succ]; rfl)); (case h1_18 => kernel_rfl); (case hq_18 => exact fun _ _ _ h => h); (case hw_18 => rfl); (case hy_18 => (intro w' hSw; (try simp only [S] at hSw); go_simp; (try with_reducible rfl))); (case hs_18 => assumption); (try simp only [Act.put, List.setIfInBounds_toArray, List.set_cons_zero, List.set_cons_succ])
        obtain ⟨pc, hpc⟩ : ∃ q : PC, q = ⟨(X : Int), ⟨tx.toArray⟩⟩ := ⟨_, rfl⟩
        have hpcc : pc.cells.toArray = #[.int .i64 (X : Int), .string ⟨tx.toArray⟩] := by rw [hpc]; rfl
        have hs1 := fun W => run_slice1 (P := Tryd.prog) (t := 43) pcZ' Tryd.underlying43 (s := 2) rfl (by omega) (by omega) pc.cells rfl W
        simp only [hpcc] at hs1
        have hb20 : But w7.heap.size (· = p) w7 (w17.alloc (.cells #[.int .i64 (X : Int), .string ⟨tx.toArray⟩] 47)) := hb17.alloc hb17.size _
        have hS20 := HS.out _ hb20
        refine wpAnyE_ready (rs := [20]) (by kernel_rfl) (by simp) (AllReadyE.cons (o := ?oo20_22) ?hoo20_22 (fun K hK => ?steponly22) AllReadyE.nil); (case hoo20_22 => (simp only [List.getElem?_toArray, List.getElem?_cons_zero, List.getElem?_cons_succ]; rfl))
        refine step_slice rfl 43 1 #[(0, .tmp 57)] rfl (by simp only [List.map_toArray, List.map_cons, List.map_nil]; exact hs1 w17) ?_
        refine hK.out _ _ (fun _ => hS20) (fun _ => ?_)
        clear hK K
        (try simp only [Act.put, List.setIfInBounds_toArray, List.set_cons_zero, List.set_cons_succ])
        clear hs1 hS17
        have hown17 := own_but (HZ.out.2.2.2.1) hb17 (by omega)
        have hz17 := hb17.size
        have hm5 : m ≤ 255 := by omega
        have hx58 : Sl (w17.alloc (.cells #[.int .i64 (X : Int), .string ⟨tx.toArray⟩] 47)) (w17.alloc (.cells #[.int .i64 (X : Int), .string ⟨tx.toArray⟩] 47)).heap.size 2 (some ⟨w17.heap.size, 0, none⟩) 1 pc.cells := by
          have e : pc.cells = (#[.int .i64 (X : Int), .string ⟨tx.toArray⟩] : Array Value).toList := by rw [hpc]; rfl
          rw [e]
          exact Sl.new (sz := 2) (n := 1) (heap_alloc_new w17 _) rfl
        have hone : ∀ u ∈ pc.cells, u.oneCell' = true := fun u hu => one_pcs [pc] u (by simpa [pcs] using hu)
        have hown20 := hown17.alloc (.cells #[.int .i64 (X : Int), .string ⟨tx.toArray⟩] 47)
        have hb20s : L + 1 ≤ (w17.alloc (.cells #[.int .i64 (X : Int), .string ⟨tx.toArray⟩] 47)).heap.size := by simp; omega
        refine wpAnyE_ready (rs := [21]) (by kernel_rfl) (by simp) (AllReadyE.cons (o := ?oo21_23) ?hoo21_23 (fun K hK => ?steponly23) AllReadyE.nil); (case hoo21_23 => (simp only [List.getElem?_toArray, List.getElem?_cons_zero, List.getElem?_cons_succ]; rfl))
        refine step_app _ rfl (.tmp 39) (.tmp 58) 43 rfl (base := L + 1) Tryd.underlying43 elemPc2 rfl hown20 rfl hx58 hone (by simp only [maxLen]; omega) (by omega) hb20s ?_
        intro A21 c21 w21 hown21 hg21 hb21 hat21
        have hbA : Below w17.heap.size w17 (w17.alloc (.cells #[.int .i64 (X : Int), .string ⟨tx.toArray⟩] 47)) := (Below.refl _ _).alloc (Nat.le_refl _) _
        have hB21 : Below (L + 1) w17 w21 := (hbA.mono (by omega)).trans hb21
        have hne21 : ∀ q, (Value.slice A5 m c5).ownBlock = some q → L + 1 ≤ q := fun q hq => (hown17.lt q hq).1
        have hbk : ∀ k, k < w17.heap.size → k ≤ L → w21.heap[k]? = w17.heap[k]? := fun k hk hkL => hB21.block k (by omega)
        have hb6 : w21.heap[b6]? = (w17.alloc (.cells #[.int .i64 (X : Int), .string ⟨tx.toArray⟩] 47)).heap[b6]? := hg21.block b6 (by have := hbA.size; omega) (fun e => by
          have h1 := hne21 b6 e.symm
          have h2 := hlt5 b6 e.symm
          omega)
        have hbL : w21.heap[L]? = (w17.alloc (.cells #[.int .i64 (X : Int), .string ⟨tx.toArray⟩] 47)).heap[L]? := hg21.block L (by have := hbA.size; omega) (fun e => by
          have h1 := hne21 L e.symm
          omega)
        have hS21 : S w21 := ⟨(World.cell?_of_block (a := ⟨L, 4, none⟩) hbL).trans hS20.1, (World.cell?_of_block (a := ⟨b6, o6, none⟩) hb6).trans hS20.2.1, (World.cell?_of_block (a := ⟨b6, o6 + 1, none⟩) hb6).trans hS20.2.2.1, (World.cell?_of_block (a := ⟨b6, o6 + 2, none⟩) hb6).trans hS20.2.2.2⟩
        refine hK.out _ _ (fun _ => hS21) (fun _ => ?_)
        clear hK K
        (try simp only [Act.put, List.setIfInBounds_toArray, List.set_cons_zero, List.set_cons_succ])
        have rL21 : w21.heap[L]? = some (.cells #[.int .i64 kd, .bool f2, .bool f3, .bool f4, .slice A5 m c5] 45) := (hB21.block L (by omega)).trans (hb17.blk hL7 (by omega) HZ.out.2.1)
        have d4 : w21.cell? ⟨L, 4, none⟩ = some (.slice A5 m c5) := blk_cell rL21 rfl
        have e4 := blk_frozen rL21 4
        refine wpAnyE_take (i := 22) (oi := ?oi_19) (v := ?v_19) ?ho_19 ?h1_19 ?h2_19 ?h3_19 ?hq_19 (Or.inl ⟨?hw_19, ?hy_19⟩) ?hs_19 ?rest_19; (case h2_19 => kernel_rfl); (case h3_19 => kernel_rfl); (case ho_19 => (simp only [List.getElem?_toArray, List.getElem?_cons_zero, List.getElem?_cons_succ]; rfl)); (case h1_19 => kernel_rfl); (case hq_19 => exact fun _ _ _ h => h); (case hw_19 => rfl); (case hy_19 => (intro w' hSw; (try simp only [S] at hSw); go_simp; (try with_reducible rfl))); (case hs_19 => assumption); (try simp only [Act.put, List.setIfInBounds_toArray, List.set_cons_zero, List.set_cons_succ])
        refine wpAnyE_ready (rs := [23]) (by kernel_rfl) (by simp) (AllReadyE.cons (o := ?oo23_24) ?hoo23_24 (fun K hK => ?steponly24) AllReadyE.nil); (case hoo23_24 => (simp only [List.getElem?_toArray, List.getElem?_cons_zero, List.getElem?_cons_succ]; rfl))
        go_simp
        refine hK.out _ _ (fun h => absurd rfl h) (fun _ => ?_)
        clear hK K
        (try simp only [Act.put, List.setIfInBounds_toArray, List.set_cons_zero, List.set_cons_succ])
        refine wpAnyE_done (by kernel_rfl) ?_ _
        obtain ⟨hml, -, r07, -, hbw7, -, hy0, hy1, hy2, hst3, hX⟩ := HZ.out
        have e3 := rdPs_more HQ.out.1 HQ.out.2.1 HQ.out.2.2
        rw [hst3, hy0, hy1, hy2, hX, htx, hst7, ← hpc] at e3
        have hBV : Below L w17 (w21.setCell ⟨L, 4, none⟩ (.slice A21 (m + 1) c21)) := (hB21.mono (Nat.le_succ L)).setCell (Nat.le_refl _) _
        have hrV : (w21.setCell ⟨L, 4, none⟩ (.slice A21 (m + 1) c21)).heap[L]? = some (.cells #[.int .i64 kd, .bool f2, .bool f3, .bool f4, .slice A21 (m + 1) c21] 45) := blk_set rL21 4 _
        have hoV : (w21.setCell ⟨L, 4, none⟩ (.slice A21 (m + 1) c21)).ownsRow (L + 1) 47 2 (.slice A21 (m + 1) c21) (m + 1) (pcs ps ++ pc.cells) := ownsRow_setCell_below hown21 (a := ⟨L, 4, none⟩) (by show L < L + 1; omega) _
        have hpl : p < L := by omega
        have hrdV := hrd17.but (but_of (X := fun _ => False) hBV) hpl (fun k h => h.elim)
        have hbV : But w.heap.size (· = p) w (w21.setCell ⟨L, 4, none⟩ (.slice A21 (m + 1) c21)) := (hbw7.trans (hb17.le hbw7.size)).trans (but_of (hBV.mono (by omega)))
        have hr0V : (w21.setCell ⟨L, 4, none⟩ (.slice A21 (m + 1) c21)).heap[w.heap.size]? = some (.cells #[.int .i64 0, .bool false, .bool false, .bool false, .slice none 0 0] 45) := (hBV.block w.heap.size hwl).trans (hb17.blk (Array.getElem?_eq_some_iff.1 r07).1 (by omega) r07)
        have HV := Lib.hid (And.intro hrV (And.intro hoV (And.intro hrdV (And.intro hbV (And.intro hr0V (And.intro e3 hml))))))
        clear hml r07 hbw7 hy0 hy1 hy2 hst3 hX e3 hBV hrV hoV hrdV hbV hr0V d4 e4 rL21 hS21 hS20 hb6 hbL hbk hB21 hbA hne21 hown21 hg21 hb21 hat21 hown17 hown20 hx58 hone hb20 hb20s hpc hpcc hS0 htx hst7 hof17 hrd17 hbt17 hb17
        go_wp2_with fail
        go_roundw
        case rel =>
          refine ⟨j + 1, m + 1, A21, c21, by omega, by omega, by go_num, HV.out.1, Lib.hid ?_⟩
          obtain ⟨-, hoV, hrdV, hbV, hr0V, e3, hml⟩ := HV.out
          rw [e3]
          refine ⟨by rw [List.length_append, ← hml]; rfl, ?_, hrdV, hbV, hr0V⟩
          rw [pcs_append]
          simpa [pcs] using hoV
        case measure => simp [intOf]; omega
    · have jx : (Tryd.prog.info? 45).map (·.size) = some (#[Value.int .i64 kd, .bool f2, .bool f3, .bool f4, .slice A5 m c5] : Array Value).size := ln_size
      have r0 := HI.out.2.2.2.2
      have hjn : j = n1 := by omega
      go_upto_region 10 with (fail)
      refine wp_region_lit ?_
      refine wpList_load_row rfl 45 (.tmp 5) rfl _ rfl _ #[.int .i64 kd, .bool f2, .bool f3, .bool f4, .slice A5 m c5] (0, 0) _ hrL Tryd.underlying45 rfl jx ?_
      (try simp only [Act.put, List.setIfInBounds_toArray, List.set_cons_zero, List.set_cons_succ])
      refine wpList_store_row rfl 45 (.tmp 2) (.tmp 62) rfl _ #[.int .i64 kd, .bool f2, .bool f3, .bool f4, .slice A5 m c5] rfl rfl _ _ r0 jx rfl (one_ln (x := ⟨kd, f2, f3, f4, .slice A5 m c5⟩) rfl) ?_
      (try simp only [Act.put, List.setIfInBounds_toArray, List.set_cons_zero, List.set_cons_succ])
      have x0 : (wr.setRow w.heap.size #[Value.int .i64 kd, .bool f2, .bool f3, .bool f4, .slice A5 m c5]).heap[w.heap.size]? = some (.cells #[Value.int .i64 kd, .bool f2, .bool f3, .bool f4, .slice A5 m c5] 45) := setRow_heap _ _ _ _ _ _ r0
      clear r0 hrL
      go_wp2_with fail
      refine bodyPost_ret (results_cell_row Tryd.results23 _ _ w.heap.size 45 _ (0, 0) _ ?_ x0 Tryd.underlying45 rfl jx) rfl ?_
      · rfl
      have e2 := HI.out
      rw [hjn] at e2
      exact line_end (HD.out _ _ rfl) e2.1 e2.2.1 hwl e2.2.2.1 e2.2.2.2.1 hpw
end Go.Proofs.YtiffcdeagckgmaaDoor
