/- codexref21.Decode: the walk. -/
import Derived.Test.YtiffcdeagckgmaaDoorShRDecP
import Derived.Test.YtiffcdeagckgmaaDoorShREnc
namespace Go.Proofs.YtiffcdeagckgmaaDoor
set_option linter.unusedSimpArgs false
set_option linter.unusedVariables false
open Go.RowKit Go.ChangeShapes Go.WideShapes Go.Sort Go.Deep
attribute [-go_sem] Builtin.append_
theorem rdec_done {a : Act} {V : World} {R : Nat} {num er : Int} {A : Option Addr} {n c : Nat} {Q : Ending → World → Prop} (hR : a.tmps.getD 2 undef = .pointer (some ⟨R, 0, none⟩)) (h3 : a.tmps.getD 3 undef = .int .i64 er)
    (hV : V.heap[R]? = some (.cells #[.int .i64 num, .slice A n c] 24)) (hd : a.defers = []) (h : Q (.returned (.tuple #[.agg #[.int .i64 num, .slice A n c], .int .i64 er])) V) : bodyPost Tryd.prog Tryd.f13 Q Exit.ret a V := by
  have hl := run_loadVar_row (P := Tryd.prog) V R 24 24 #[.int .i64 num, .slice A n c] (0, 0) _ hV Tryd.underlying24 rfl sh_size
  have hR' : a.tmps[2]?.getD undef = .pointer (some ⟨R, 0, none⟩) := by simpa using hR
  have h3' : a.tmps[3]?.getD undef = .int .i64 er := by simpa using h3
  refine bodyPost_ret ?_ hd h
  simp [results, Tryd.results13, asAddr, hR', h3', hl]
theorem slice_lh {b o n c q3 q x2 : Nat} (h : q3 + x2 = q) (hq : q ≤ c) (hc : c ≤ 9223372036854775807) (W : World) : (Instr.slice 25 (.slice (some ⟨b, o, none⟩) n c) (some (.int .i64 (q3 : Int))) (some (.int .i64 (q : Int))) none).run Tryd.prog W = .ok (.slice (if c = q3 then some ⟨b, o, none⟩ else some ⟨b, o + q3, none⟩) x2 (c - q3)) W := by
  have h1 : (0 : Int) ≤ (q3 : Int) := by omega
  have h2 : (q3 : Int) ≤ (q : Int) := by omega
  have h3 : (q : Int) ≤ (c : Int) := by omega
  have h4 : q - q3 = x2 := by omega
  by_cases hcq : c = q3
  · subst hcq
    rw [if_pos rfl]
    go_simp
    first | rfl | (simp [h4]) | skip
  · rw [if_neg hcq]
    go_simp
    first | rfl | (simp [h4]) | skip
structure PF (w : World) (bb : List UInt8) (b o n c a2 X2 : Nat) (ps : List PC) (s : List PC × RS) (j X t1 t3 t4 : Nat) (y0 y1 : UInt8) (AX : Option Addr) (cx : Nat) (tx : List UInt8) : Prop where
  h1 : a2 + 1 = t1
  h3 : a2 + 3 = t3
  h4 : t3 + X2 = t4
  e0 : at8 bb a2 = y0
  e1 : at8 bb t1 = y1
  nx : rdPs (j + 1) s = (ps ++ [⟨(X : Int), ⟨tx.toArray⟩⟩], ⟨bb.drop t4, true⟩)
  w1 : IntKind.i64.wrap ((a2 : Int) + 1) = (t1 : Int)
  w3 : IntKind.i64.wrap ((a2 : Int) + 3) = (t3 : Int)
  v0 : IntKind.i64.wrap (y0.toNat : Int) = (y0.toNat : Int)
  v1 : IntKind.i64.wrap (y1.toNat : Int) = (y1.toNat : Int)
  v2 : IntKind.i64.wrap ((y0.toNat : Int) * 256) = (y0.toNat : Int) * 256
  v3 : IntKind.i64.wrap ((y0.toNat : Int) * 256 + (y1.toNat : Int)) = (X : Int)
  go4 : (a2 : Int) + 3 + (X2 : Int) = (t4 : Int)
  sl : ∀ W, (Instr.slice 25 (.slice (some ⟨b, o, none⟩) n c) (some (.int .i64 (t3 : Int))) (some (.int .i64 (t4 : Int))) none).run Tryd.prog W = .ok (.slice AX X2 cx) W
  cv : ∀ W, Below w.heap.size w W → (convert 25 9 (.slice AX X2 cx)).run Tryd.prog W = .ok (.string ⟨tx.toArray⟩) W
theorem piece_facts {w : World} {bb : List UInt8} {b o n c a2 X2 j : Nat} {ps : List PC} {s : List PC × RS} (hs : Sl w w.heap.size 1 (some ⟨b, o, none⟩) n (bvs bb)) (hbn : bb.length = n) (hc : n ≤ c) (hn : n ≤ 1000000) (hm : c ≤ 9223372036854775807)
    (hx : (at8 bb (a2 + 2)).toNat = X2) (h4 : a2 + 3 + X2 ≤ n) (hrp : rdPs j s = (ps, ⟨bb.drop a2, true⟩)) : ∃ X t1 t3 t4 y0 y1 AX cx tx, PF w bb b o n c a2 X2 ps s j X t1 t3 t4 y0 y1 AX cx tx := by
  have hat2 : (at8 (bb.drop a2) 2).toNat = X2 := by rw [at8_drop, hx]
  have hlen : (bb.drop a2).length = n - a2 := by rw [List.length_drop, hbn]
  have hnext := rdPs_next hrp (stepP_ok (acc := ps) (z := bb.drop a2) (by omega) (by rw [hat2]; omega))
  rw [hat2, List.drop_drop, List.drop_drop, at8_drop, at8_drop] at hnext
  simp only [Nat.add_zero] at hnext
  have hsx : Sl w w.heap.size 1 (if c = a2 + 3 then some ⟨b, o, none⟩ else some ⟨b, o + (a2 + 3), none⟩) X2 (bvs ((bb.drop (a2 + 3)).take X2)) := by
    have hh := hs.cut (lo := a2 + 3) (hi := a2 + 3 + X2) (cap := c) (by omega) (by omega) hc
    have e5 : a2 + 3 + X2 - (a2 + 3) = X2 := by omega
    rw [e5] at hh
    have e6 : ((bvs bb).drop ((a2 + 3) * 1)).take (X2 * 1) = bvs ((bb.drop (a2 + 3)).take X2) := by rw [Nat.mul_one, Nat.mul_one, bvs, bvs, List.map_take, List.map_drop]
    rw [e6] at hh
    have e7 : (if c = a2 + 3 then some (⟨b, o, none⟩ : Addr) else (some (⟨b, o, none⟩ : Addr)).map (·.add ((a2 + 3) * 1))) = (if c = a2 + 3 then some ⟨b, o, none⟩ else some ⟨b, o + (a2 + 3), none⟩) := by
      split
      · rfl
      · rw [Option.map_some, Addr.add_mid, Nat.mul_one]
    rw [e7] at hh
    exact hh
  have l0 := (at8 bb a2).toNat_lt
  have l1 := (at8 bb (a2 + 1)).toNat_lt
  refine ⟨(at8 bb a2).toNat * 256 + (at8 bb (a2 + 1)).toNat, a2 + 1, a2 + 3, a2 + 3 + X2, at8 bb a2, at8 bb (a2 + 1), _, c - (a2 + 3), (bb.drop (a2 + 3)).take X2, ⟨rfl, rfl, rfl, rfl, rfl, ?_, ?_, ?_, ?_, ?_, ?_, ?_, ?_, fun W => slice_lh rfl (by omega) (by omega) W, fun W hb => run_str (hsx.below hb) _ Tryd.underlying25 Tryd.underlying5 Tryd.underlying9⟩⟩
  · rw [hnext]
    have e : a2 + (3 + X2) = a2 + 3 + X2 := by omega
    rw [e]
  · rw [wrap_small _ (by omega) (by omega)]; omega
  · rw [wrap_small _ (by omega) (by omega)]; omega
  · exact wrap_small _ (by omega) (by omega)
  · exact wrap_small _ (by omega) (by omega)
  · exact wrap_small _ (by omega) (by omega)
  · rw [wrap_small _ (by omega) (by omega)]; omega
  · omega
theorem bool_nat {k d : Nat} (hd : 0 < d) : (((k : Int) / (d : Int) % 2 == 1) : Bool) = (k / d % 2 == 1) := by
  have e : (k : Int) / (d : Int) % 2 = ((k / d % 2 : Nat) : Int) := by simp
  rw [e, Bool.eq_iff_iff]
  simp
  omega
set_option maxRecDepth 100000 in
set_option maxHeartbeats 16000000 in
theorem rdec_any {A : Option Addr} {n c : Nat} {bb : List UInt8} (w : World) (hs : Sl w w.heap.size 1 A n (bvs bb)) (hc : n ≤ c) (hm : c ≤ maxLen) (hn : n ≤ 1000000) :
    Calls Tryd.prog 13 #[.slice A n c] w (DecP w bb) := by
  have hbn : bb.length = n := by have := hs.len; rw [bvs_len] at this; omega
  have hm8 := hm
  simp only [maxLen] at hm8
  by_cases hn2 : 2 ≤ n
  case neg =>
    have z : (n : Int) < 2 := by omega
    have hno := decS_short (b := bb) (by omega)
    have HNO := Lib.hid hno
    clear hs hbn hno
    go_enter Tryd.func13, Tryd.ntmps13
    go_upto_region 1 with (fail)
    obtain ⟨W0, hW0⟩ : ∃ q, w.alloc (.cells #[.int .i64 0, .slice none 0 0] 24) = q := ⟨_, rfl⟩
    have r0 : W0.heap[w.heap.size]? = some (.cells #[.int .i64 0, .slice none 0 0] 24) := by rw [← hW0]; exact heap_alloc_new _ _
    have b0 : Below w.heap.size w W0 := by rw [← hW0]; exact (Below.refl _ _).alloc (Nat.le_refl _) _
    rw [hW0]
    clear hW0
    have z0 : W0.cell? ⟨w.heap.size, 0, none⟩ = some (.int .i64 0) := blk_cell r0 rfl
    have z1 : W0.cell? ⟨w.heap.size, 1, none⟩ = some (.slice none 0 0) := blk_cell r0 rfl
    have f0 := blk_frozen r0 0
    have f1 := blk_frozen r0 1
    have HB := Lib.hid (And.intro b0 r0)
    clear r0 b0
    go_wp2_with fail
    refine rdec_done (R := w.heap.size) (num := 0) (er := 11) rfl rfl (blk_set (blk_set HB.out.2 0 _) 1 _) rfl (DecP.no ?_ HNO.out)
    exact (HB.out.1.setCell (Nat.le_refl _) _).setCell (Nat.le_refl _) _
  have z2 : ¬ (n : Int) < 2 := by omega
  obtain ⟨b, o, rfl, hbw, hr⟩ := hs.at_ (by omega)
  have hcell : ∀ (k : Nat) (W : World), k < n → Below w.heap.size w W → W.cell? ⟨b, o + k, none⟩ = some (.int .u8 ((at8 bb k).toNat : Int)) := fun k W hk hb => by
    refine (hb.cell (p := ⟨b, o + k, none⟩) hbw).trans (hr k _ ?_)
    simp [bvs, bv, at8, hbn, hk]
  have HC := Lib.hid hcell
  have HS := Lib.hid (And.intro hs (And.intro hbn hm))
  obtain ⟨hD1, hD2⟩ := decS_ok (b := bb) (by omega)
  obtain ⟨x0, hx0⟩ : ∃ q, at8 bb 0 = q := ⟨_, rfl⟩
  obtain ⟨x1, hx1⟩ : ∃ q, at8 bb 1 = q := ⟨_, rfl⟩
  rw [hx0] at hD1
  rw [hx1] at hD2
  have l0 := x0.toNat_lt
  have l1 := x1.toNat_lt
  have HX := Lib.hid (And.intro hx0 (And.intro hx1 (And.intro hD1 hD2)))
  have m0 := hcell 0 w (by omega) (Below.refl _ _)
  rw [hx0, Nat.add_zero] at m0
  clear hs hbn hcell hr hx0 hx1 hD1 hD2 hm
  go_enter Tryd.func13, Tryd.ntmps13
  go_upto_region 4 with (fail)
  obtain ⟨num, hnum⟩ : ∃ q : Nat, x0.toNat = q := ⟨_, rfl⟩
  rw [hnum] at l0 ⊢
  obtain ⟨W2, hW2⟩ : ∃ q, (w.alloc (.cells #[.int .i64 0, .slice none 0 0] 24)).alloc (.cells #[.int .i64 (num : Int), .slice none 0 0] 24) = q := ⟨_, rfl⟩
  have b2 : Below w.heap.size w W2 := by rw [← hW2]; exact ((Below.refl _ _).alloc (Nat.le_refl _) _).alloc (by simp) _
  have r0 : W2.heap[w.heap.size]? = some (.cells #[.int .i64 0, .slice none 0 0] 24) := by
    rw [← hW2]; exact (Below.heap_alloc _ _ _ (by simp)).trans (heap_alloc_new _ _)
  have rT : W2.heap[w.heap.size + 1]? = some (.cells #[.int .i64 (num : Int), .slice none 0 0] 24) := by rw [← hW2]; exact heap_alloc_new2 _ _ _
  rw [hW2]
  clear hW2 m0
  obtain ⟨T, hTT⟩ : ∃ q, w.heap.size + 1 = q := ⟨_, rfl⟩
  rw [hTT] at rT ⊢
  have hwT : w.heap.size < T := by omega
  clear hTT
  have HB2 := Lib.hid (And.intro b2 (And.intro r0 rT))
  clear b2 r0 rT
  go_wp2_with fail
  obtain ⟨n1, hn1⟩ : ∃ q, x1.toNat = q := ⟨_, rfl⟩
  have hD : decN bb = (num : Int) ∧ decS bb = rdLs n1 ([], ⟨bb.drop 2, true⟩) := ⟨by rw [HX.out.2.2.1, hnum], by rw [HX.out.2.2.2, hn1]⟩
  have HD := Lib.hid hD
  have hn255 : n1 ≤ 255 := by omega
  have HN1 := Lib.hid hn1
  clear hD hnum hn1
  go_loopw [5, 6] (fun s5 s6 wr => ∃ (i m a : Nat) (A5 : Option Addr) (c5 : Nat), i ≤ n1 ∧ m ≤ i ∧ a ≤ n ∧ s6 = .int .i64 i ∧ s5 = .int .i64 a ∧ wr.heap[T]? = some (.cells #[.int .i64 (num : Int), .slice A5 m c5] 24) ∧ Below w.heap.size w wr ∧ Hid (∃ l ls, m = l.length ∧ RSame l ls ∧ rdLs i ([], ⟨bb.drop 2, true⟩) = (ls, ⟨bb.drop a, true⟩) ∧ wr.ownsRow (T + 1) 45 5 (.slice A5 m c5) m (lns (lnsOf l)) ∧ PcOwn wr (T + 1) (Value.slice A5 m c5).ownBlock l ∧ (∀ r ∈ l, 0 ≤ r.1.kind ∧ r.1.kind ≤ 3) ∧ wr.heap[w.heap.size]? = some (.cells #[.int .i64 0, .slice none 0 0] 24))) (fun _ q _ => n1 - (intOf q).toNat)
  case atStart => exact ⟨0, 0, 2, none, 0, by omega, by omega, hn2, rfl, rfl, HB2.out.2.2, HB2.out.1, Lib.hid ⟨[], [], rfl, RSame.refl _, rfl, World.ownsRow_nil _ _ _ _, (fun r hr => by cases hr), (fun r hr => by cases hr), HB2.out.2.1⟩⟩
  case round =>
    obtain ⟨i, m, a, A5, c5, hi, hm5, ha, rfl, rfl, hrT, hbr, HI⟩ := hrel
    have hTr := (Array.getElem?_eq_some_iff.1 hrT).1
    have m1 := HC.out 1 wr (by omega) hbr
    rw [HX.out.2.1, HN1.out] at m1
    have hzr := hbr.size
    by_cases hlt : i < n1
    · have g4 : (i : Int) < n1 := by omega
      by_cases ha2 : a + 2 ≤ n
      case neg =>
        have z : (n : Int) < (a : Int) + 2 := by omega
        obtain ⟨l, ls, -, -, hrd, -, -, -, rr⟩ := HI.out
        have hbad := rdLs_bad hrd rfl (lineD_no (by rw [List.length_drop, HS.out.2.1]; omega)) hlt
        have hno : ¬ OkD bb := fun h => by have h1 := h.2.1; rw [HD.out.2, hbad] at h1; cases h1
        have hbx := hbr
        clear hrd hbad
        have z0 : wr.cell? ⟨w.heap.size, 0, none⟩ = some (.int .i64 0) := blk_cell rr rfl
        have z1 : wr.cell? ⟨w.heap.size, 1, none⟩ = some (.slice none 0 0) := blk_cell rr rfl
        have f0 := blk_frozen rr 0
        have f1 := blk_frozen rr 1
        have HB := Lib.hid (And.intro hbx rr)
        have HNO := Lib.hid hno
        clear rr hbx hno
        go_wp2_with fail
        refine rdec_done (R := w.heap.size) (num := 0) (er := 11) rfl rfl (blk_set (blk_set HB.out.2 0 _) 1 _) rfl (DecP.no ?_ HNO.out)
        exact (HB.out.1.setCell (Nat.le_refl _) _).setCell (Nat.le_refl _) _
      have z : ¬ (n : Int) < (a : Int) + 2 := by omega
      have m3 := HC.out a wr (by omega) hbr
      have m4 := HC.out (a + 1) wr (by omega) hbr
      obtain ⟨kb, hkb⟩ : ∃ q, at8 bb a = q := ⟨_, rfl⟩
      obtain ⟨nb, hnb⟩ : ∃ q, at8 bb (a + 1) = q := ⟨_, rfl⟩
      rw [hkb] at m3
      rw [hnb] at m4
      have lk := kb.toNat_lt
      have ln := nb.toNat_lt
      have HKB := Lib.hid (And.intro hkb hnb)
      have HBR := Lib.hid hbr
      clear hkb hnb hbr
      go_upto_region 10 with (fail)
      go_quiet (fail)
      generalize hwq : World.drewN wr _ = wq
      have hwh : wq.heap = wr.heap := by rw [← hwq]; rfl
      have hbq : Below w.heap.size w wq := by rw [← hwq]; exact bDrewN HBR.out _
      have hbqr : Below wr.heap.size wr wq := by rw [← hwq]; exact bDrewN (Below.refl _ _) _
      clear hwq m3 m4
      obtain ⟨L, hLL⟩ : ∃ q, wr.heap.size = q := ⟨_, rfl⟩
      have hqL : wq.heap.size = L := by rw [hwh, hLL]
      go_upto_region 13 with (fail)
      try rw [hqL]
      obtain ⟨kd, hkd⟩ : ∃ q : Int, ((kb.toNat : Int) % 4) = q := ⟨_, rfl⟩
      obtain ⟨f2, hf2⟩ : ∃ q : Bool, ((kb.toNat : Int) / 4 % 2 == 1) = q := ⟨_, rfl⟩
      obtain ⟨f3, hf3⟩ : ∃ q : Bool, ((kb.toNat : Int) / 8 % 2 == 1) = q := ⟨_, rfl⟩
      obtain ⟨f4, hf4⟩ : ∃ q : Bool, ((kb.toNat : Int) / 16 % 2 == 1) = q := ⟨_, rfl⟩
      rw [hkd, hf2, hf3, hf4]
      have HF := Lib.hid (And.intro hkd (And.intro hf2 (And.intro hf3 hf4)))
      obtain ⟨W3, hW3⟩ : ∃ q, wq.alloc (.cells #[.int .i64 kd, .bool f2, .bool f3, .bool f4, .slice none 0 0] 45) = q := ⟨_, rfl⟩
      have rL : W3.heap[L]? = some (.cells #[.int .i64 kd, .bool f2, .bool f3, .bool f4, .slice none 0 0] 45) := by
        have := heap_alloc_new wq (.cells #[.int .i64 kd, .bool f2, .bool f3, .bool f4, .slice none 0 0] 45)
        rw [hqL, hW3] at this; exact this
      have bL : Below L wr W3 := by
        have h1 : Below wr.heap.size wr (wq.alloc (.cells #[.int .i64 kd, .bool f2, .bool f3, .bool f4, .slice none 0 0] 45)) := hbqr.alloc (by rw [hqL, hLL]; exact Nat.le_refl _) _
        rw [hW3, hLL] at h1; exact h1
      rw [hW3]
      have hTL : T < L := by rw [← hLL]; exact hTr
      have HL3 := Lib.hid (And.intro rL (And.intro bL (And.intro hLL hrT)))
      clear hW3 hkd hf2 hf3 hf4 rL bL hwh hbq hbqr hqL hLL hrT lk m1
      obtain ⟨nbN, hnbN⟩ : ∃ q, nb.toNat = q := ⟨_, rfl⟩
      rw [hnbN] at ln ⊢
      have HNB := Lib.hid hnbN
      clear hnbN
      have ga2 : IntKind.i64.wrap ((a : Int) + 2) = ((a + 2 : Nat) : Int) := by rw [wrap_small _ (by omega) (by omega)]; omega
      have hrd0 : (rdPs nbN ([], ⟨bb.drop (a + 2), true⟩)).2.ok = false → ¬ OkD bb := fun hbad h => by
        obtain ⟨l, ls, -, -, hrd, -⟩ := HI.out
        have e1 : at8 (bb.drop a) 1 = nb := by rw [at8_drop]; exact HKB.out.2
        have e2 : (lineD ⟨bb.drop a, true⟩).2.ok = false := by
          rw [lineD_ok (by rw [List.length_drop, HS.out.2.1]; omega), e1, HNB.out, List.drop_drop]
          exact hbad
        have h3 := rdLs_bad hrd rfl e2 hlt
        have h1 := h.2.1
        rw [HD.out.2, h3] at h1
        cases h1
      have HRD := Lib.hid hrd0
      clear hrd0
      go_wp2_with fail
      obtain ⟨wo, hwo⟩ : ∃ q, q = wr := ⟨_, rfl⟩
      subst hwo
      go_loopw [5, 10] (fun s5 s10 wi => ∃ (j mp a2 : Nat) (A7 : Option Addr) (c7 : Nat), j ≤ nbN ∧ mp ≤ j ∧ a2 ≤ n ∧ s10 = .int .i64 j ∧ s5 = .int .i64 a2 ∧ wi.heap[L]? = some (.cells #[.int .i64 kd, .bool f2, .bool f3, .bool f4, .slice A7 mp c7] 45) ∧ Below L wo wi ∧ Hid (∃ ps, mp = ps.length ∧ rdPs j ([], ⟨bb.drop (a + 2), true⟩) = (ps, ⟨bb.drop a2, true⟩) ∧ wi.ownsRow (L + 1) 47 2 (.slice A7 mp c7) mp (pcs ps))) (fun _ q _ => nbN - (intOf q).toNat)
      case atStart => exact ⟨0, 0, a + 2, none, 0, by omega, by omega, ha2, rfl, by simp, HL3.out.1, HL3.out.2.1, Lib.hid ⟨[], rfl, rfl, World.ownsRow_nil _ _ _ _⟩⟩
      case round =>
        obtain ⟨j, mp, a2, A7, c7, hj, hmp, haa, rfl, rfl, hrL, hbi, HI2⟩ := hrel
        have hbw2 : Below w.heap.size w wr := HBR.out.trans (hbi.mono (by omega))
        have rr := bBlk (b := w.heap.size) hbi (by omega) (by obtain ⟨_, _, -, -, -, -, -, -, h⟩ := HI.out; exact h)
        by_cases hlj : j < nbN
        · have g5 : (j : Int) < nbN := by omega
          by_cases h3 : a2 + 3 ≤ n
          case neg =>
            have z : (n : Int) < (a2 : Int) + 3 := by omega
            obtain ⟨ps, -, hrp, -⟩ := HI2.out
            have hno := HRD.out (rdPs_bad hrp (stepP_no (by rw [List.length_drop, HS.out.2.1]; omega)) hlj)
            have hbx := hbw2
            clear hrp
            have z0 : wr.cell? ⟨w.heap.size, 0, none⟩ = some (.int .i64 0) := blk_cell rr rfl
            have z1 : wr.cell? ⟨w.heap.size, 1, none⟩ = some (.slice none 0 0) := blk_cell rr rfl
            have f0 := blk_frozen rr 0
            have f1 := blk_frozen rr 1
            have HB := Lib.hid (And.intro hbx rr)
            have HNO := Lib.hid hno
            clear rr hbx hno
            go_wp2_with fail
            refine rdec_done (R := w.heap.size) (num := 0) (er := 11) rfl rfl (blk_set (blk_set HB.out.2 0 _) 1 _) rfl (DecP.no ?_ HNO.out)
            exact (HB.out.1.setCell (Nat.le_refl _) _).setCell (Nat.le_refl _) _
          have hz3 : ¬ (n : Int) < (a2 : Int) + 3 := by omega
          have m5 := HC.out (a2 + 2) wr (by omega) hbw2
          obtain ⟨x2, hx2⟩ : ∃ q, at8 bb (a2 + 2) = q := ⟨_, rfl⟩
          rw [hx2] at m5
          have l2 := x2.toNat_lt
          obtain ⟨X2, hX2⟩ : ∃ q, x2.toNat = q := ⟨_, rfl⟩
          rw [hX2] at m5 l2
          have hat2 : (at8 (bb.drop a2) 2).toNat = X2 := by rw [at8_drop, hx2, hX2]
          by_cases h4 : a2 + 3 + X2 ≤ n
          case neg =>
            have z : (n : Int) < (a2 : Int) + 3 + X2 := by omega
            obtain ⟨ps, -, hrp, -⟩ := HI2.out
            have hno := HRD.out (rdPs_bad hrp (stepP_no (by rw [List.length_drop, HS.out.2.1, hat2]; omega)) hlj)
            have hbx := hbw2
            clear hrp hx2 hX2 hat2
            have z0 : wr.cell? ⟨w.heap.size, 0, none⟩ = some (.int .i64 0) := blk_cell rr rfl
            have z1 : wr.cell? ⟨w.heap.size, 1, none⟩ = some (.slice none 0 0) := blk_cell rr rfl
            have f0 := blk_frozen rr 0
            have f1 := blk_frozen rr 1
            have HB := Lib.hid (And.intro hbx rr)
            have HNO := Lib.hid hno
            clear rr hbx hno
            go_wp2_with fail
            refine rdec_done (R := w.heap.size) (num := 0) (er := 11) rfl rfl (blk_set (blk_set HB.out.2 0 _) 1 _) rfl (DecP.no ?_ HNO.out)
            exact (HB.out.1.setCell (Nat.le_refl _) _).setCell (Nat.le_refl _) _
          have hz4 : ¬ (n : Int) < (a2 : Int) + 3 + X2 := by omega
          clear rr
          go_upto_region 19 with (fail)
          obtain ⟨ps, hml, hrp, hown⟩ := HI2.out
          obtain ⟨X, t1, t3, t4, y0, y1, AX, cx, tx, pf⟩ := piece_facts HS.out.1 HS.out.2.1 hc hn hm8 (by rw [hx2, hX2]) h4 hrp
          have m6 := HC.out a2 wr (by omega) hbw2
          have m7 := HC.out (a2 + 1) wr (by omega) hbw2
          rw [pf.e0] at m6
          rw [pf.h1, pf.e1] at m7
          rw [pf.go4]
          have d4 : wr.cell? ⟨L, 4, none⟩ = some (.slice A7 mp c7) := blk_cell hrL rfl
          have hLr := (Array.getElem?_eq_some_iff.1 hrL).1
          have q1 := pf.h1
          have gi1 : (a2 : Int) < (n : Int) := by omega
          have gi2 : (t1 : Int) < (n : Int) := by omega
          have gi3 : (0 : Int) ≤ (t1 : Int) := by omega
          have gi4 : (0 : Int) ≤ (a2 : Int) := by omega
          obtain ⟨gw1, gw3, gy0, gy1, gy2, gy3, hsl, hcv⟩ := And.intro pf.w1 (And.intro pf.w3 (And.intro pf.v0 (And.intro pf.v1 (And.intro pf.v2 (And.intro pf.v3 (And.intro pf.sl pf.cv))))))
          obtain ⟨pc, hpc⟩ : ∃ q : PC, ⟨(X : Int), ⟨tx.toArray⟩⟩ = q := ⟨_, rfl⟩
          have hpcc : (#[.int .i64 (X : Int), .string ⟨tx.toArray⟩] : Array Value) = pc.cells.toArray := by rw [← hpc]; rfl
          have hnx := pf.nx
          rw [hpc] at hnx
          have h34 := And.intro pf.h3 pf.h4
          have HNX := Lib.hid (And.intro hml (And.intro hnx (And.intro hown h34)))
          let S : World → Prop := fun w' => w'.cell? ⟨L, 4, none⟩ = some (.slice A7 mp c7) ∧ w'.cell? ⟨b, o + a2, none⟩ = some (.int .u8 (y0.toNat : Int)) ∧ w'.cell? ⟨b, o + t1, none⟩ = some (.int .u8 (y1.toNat : Int)) ∧ Below w.heap.size w w'
          have hS0 : S wr.drew := ⟨d4, m6, m7, hbw2.drew⟩
          have HM := Lib.hid (And.intro m6 m7)
          have H4 := Lib.hid h4
          clear hml hrp hown hnx hat2 d4 m5 z hz3 hz4 h3 h4 hx2 hX2 pf q1 m6 m7 h34 hpc
          refine wp_region_E (S := S) 25 (by kernel_rfl) ?_
          change wpAnyE _ _ _ _ S _ _ _ _ wr.drew
          refine wpAnyE_take (i := 0) (oi := ?oi_1) (v := ?v_1) ?ho_1 ?h1_1 ?h2_1 ?h3_1 ?hq_1 (Or.inl ⟨?hw_1, ?hy_1⟩) ?hs_1 ?rest_1; (case h2_1 => kernel_rfl); (case h3_1 => kernel_rfl); (case ho_1 => (simp only [List.getElem?_toArray, List.getElem?_cons_zero, List.getElem?_cons_succ]; rfl)); (case h1_1 => kernel_rfl); (case hq_1 => exact fun _ _ _ h => h); (case hw_1 => rfl); (case hy_1 => (intro w' hSw; (try simp only [S] at hSw); go_simp; (try with_reducible rfl))); (case hs_1 => assumption); (try simp only [Act.put, List.setIfInBounds_toArray, List.set_cons_zero, List.set_cons_succ])
          refine wpAnyE_take (i := 1) (oi := ?oi_2) (v := ?v_2) ?ho_2 ?h1_2 ?h2_2 ?h3_2 ?hq_2 (Or.inl ⟨?hw_2, ?hy_2⟩) ?hs_2 ?rest_2; (case h2_2 => kernel_rfl); (case h3_2 => kernel_rfl); (case ho_2 => (simp only [List.getElem?_toArray, List.getElem?_cons_zero, List.getElem?_cons_succ]; rfl)); (case h1_2 => kernel_rfl); (case hq_2 => exact fun _ _ _ h => h); (case hw_2 => rfl); (case hy_2 => (intro w' hSw; (try simp only [S] at hSw); go_simp; (try with_reducible rfl))); (case hs_2 => assumption); (try simp only [Act.put, List.setIfInBounds_toArray, List.set_cons_zero, List.set_cons_succ])
          refine wpAnyE_take (i := 2) (oi := ?oi_3) (v := ?v_3) ?ho_3 ?h1_3 ?h2_3 ?h3_3 ?hq_3 (Or.inl ⟨?hw_3, ?hy_3⟩) ?hs_3 ?rest_3; (case h2_3 => kernel_rfl); (case h3_3 => kernel_rfl); (case ho_3 => (simp only [List.getElem?_toArray, List.getElem?_cons_zero, List.getElem?_cons_succ]; rfl)); (case h1_3 => kernel_rfl); (case hq_3 => exact fun _ _ _ h => h); (case hw_3 => rfl); (case hy_3 => (intro w' hSw; (try simp only [S] at hSw); go_simp; (try with_reducible rfl))); (case hs_3 => assumption); (try simp only [Act.put, List.setIfInBounds_toArray, List.set_cons_zero, List.set_cons_succ])
          refine wpAnyE_take (i := 3) (oi := ?oi_4) (v := ?v_4) ?ho_4 ?h1_4 ?h2_4 ?h3_4 ?hq_4 (Or.inl ⟨?hw_4, ?hy_4⟩) ?hs_4 ?rest_4; (case h2_4 => kernel_rfl); (case h3_4 => kernel_rfl); (case ho_4 => (simp only [List.getElem?_toArray, List.getElem?_cons_zero, List.getElem?_cons_succ]; rfl)); (case h1_4 => kernel_rfl); (case hq_4 => exact fun _ _ _ h => h); (case hw_4 => rfl); (case hy_4 => (intro w' hSw; (try simp only [S] at hSw); go_simp; (try with_reducible rfl))); (case hs_4 => assumption); (try simp only [Act.put, List.setIfInBounds_toArray, List.set_cons_zero, List.set_cons_succ])
          refine wpAnyE_take (i := 4) (oi := ?oi_5) (v := ?v_5) ?ho_5 ?h1_5 ?h2_5 ?h3_5 ?hq_5 (Or.inl ⟨?hw_5, ?hy_5⟩) ?hs_5 ?rest_5; (case h2_5 => kernel_rfl); (case h3_5 => kernel_rfl); (case ho_5 => (simp only [List.getElem?_toArray, List.getElem?_cons_zero, List.getElem?_cons_succ]; rfl)); (case h1_5 => kernel_rfl); (case hq_5 => exact fun _ _ _ h => h); (case hw_5 => rfl); (case hy_5 => (intro w' hSw; (try simp only [S] at hSw); go_simp; (try with_reducible rfl))); (case hs_5 => assumption); (try simp only [Act.put, List.setIfInBounds_toArray, List.set_cons_zero, List.set_cons_succ])
          refine wpAnyE_take (i := 5) (oi := ?oi_6) (v := ?v_6) ?ho_6 ?h1_6 ?h2_6 ?h3_6 ?hq_6 (Or.inl ⟨?hw_6, ?hy_6⟩) ?hs_6 ?rest_6; (case h2_6 => kernel_rfl); (case h3_6 => kernel_rfl); (case ho_6 => (simp only [List.getElem?_toArray, List.getElem?_cons_zero, List.getElem?_cons_succ]; rfl)); (case h1_6 => kernel_rfl); (case hq_6 => exact fun _ _ _ h => h); (case hw_6 => rfl); (case hy_6 => (intro w' hSw; (try simp only [S] at hSw); go_simp; (try with_reducible rfl))); (case hs_6 => assumption); (try simp only [Act.put, List.setIfInBounds_toArray, List.set_cons_zero, List.set_cons_succ])
          refine wpAnyE_take (i := 6) (oi := ?oi_7) (v := ?v_7) ?ho_7 ?h1_7 ?h2_7 ?h3_7 ?hq_7 (Or.inl ⟨?hw_7, ?hy_7⟩) ?hs_7 ?rest_7; (case h2_7 => kernel_rfl); (case h3_7 => kernel_rfl); (case ho_7 => (simp only [List.getElem?_toArray, List.getElem?_cons_zero, List.getElem?_cons_succ]; rfl)); (case h1_7 => kernel_rfl); (case hq_7 => exact fun _ _ _ h => h); (case hw_7 => rfl); (case hy_7 => (intro w' hSw; (try simp only [S] at hSw); go_simp; (try with_reducible rfl))); (case hs_7 => assumption); (try simp only [Act.put, List.setIfInBounds_toArray, List.set_cons_zero, List.set_cons_succ])
          refine wpAnyE_take (i := 7) (oi := ?oi_8) (v := ?v_8) ?ho_8 ?h1_8 ?h2_8 ?h3_8 ?hq_8 (Or.inl ⟨?hw_8, ?hy_8⟩) ?hs_8 ?rest_8; (case h2_8 => kernel_rfl); (case h3_8 => kernel_rfl); (case ho_8 => (simp only [List.getElem?_toArray, List.getElem?_cons_zero, List.getElem?_cons_succ]; rfl)); (case h1_8 => kernel_rfl); (case hq_8 => exact fun _ _ _ h => h); (case hw_8 => rfl); (case hy_8 => (intro w' hSw; (try simp only [S] at hSw); go_simp; (try with_reducible rfl))); (case hs_8 => assumption); (try simp only [Act.put, List.setIfInBounds_toArray, List.set_cons_zero, List.set_cons_succ])
          refine wpAnyE_take (i := 8) (oi := ?oi_9) (v := ?v_9) ?ho_9 ?h1_9 ?h2_9 ?h3_9 ?hq_9 (Or.inl ⟨?hw_9, ?hy_9⟩) ?hs_9 ?rest_9; (case h2_9 => kernel_rfl); (case h3_9 => kernel_rfl); (case ho_9 => (simp only [List.getElem?_toArray, List.getElem?_cons_zero, List.getElem?_cons_succ]; rfl)); (case h1_9 => kernel_rfl); (case hq_9 => exact fun _ _ _ h => h); (case hw_9 => rfl); (case hy_9 => (intro w' hSw; (try simp only [S] at hSw); go_simp; (try with_reducible rfl))); (case hs_9 => assumption); (try simp only [Act.put, List.setIfInBounds_toArray, List.set_cons_zero, List.set_cons_succ])
          refine wpAnyE_take (i := 9) (oi := ?oi_10) (v := ?v_10) ?ho_10 ?h1_10 ?h2_10 ?h3_10 ?hq_10 (Or.inl ⟨?hw_10, ?hy_10⟩) ?hs_10 ?rest_10; (case h2_10 => kernel_rfl); (case h3_10 => kernel_rfl); (case ho_10 => (simp only [List.getElem?_toArray, List.getElem?_cons_zero, List.getElem?_cons_succ]; rfl)); (case h1_10 => kernel_rfl); (case hq_10 => exact fun _ _ _ h => h); (case hw_10 => rfl); (case hy_10 => (intro w' hSw; (try simp only [S] at hSw); go_simp; (try with_reducible rfl))); (case hs_10 => assumption); (try simp only [Act.put, List.setIfInBounds_toArray, List.set_cons_zero, List.set_cons_succ])
          refine wpAnyE_take (i := 10) (oi := ?oi_11) (v := ?v_11) ?ho_11 ?h1_11 ?h2_11 ?h3_11 ?hq_11 (Or.inl ⟨?hw_11, ?hy_11⟩) ?hs_11 ?rest_11; (case h2_11 => kernel_rfl); (case h3_11 => kernel_rfl); (case ho_11 => (simp only [List.getElem?_toArray, List.getElem?_cons_zero, List.getElem?_cons_succ]; rfl)); (case h1_11 => kernel_rfl); (case hq_11 => exact fun _ _ _ h => h); (case hw_11 => rfl); (case hy_11 => (intro w' hSw; (try simp only [S] at hSw); go_simp; (try with_reducible rfl))); (case hs_11 => assumption); (try simp only [Act.put, List.setIfInBounds_toArray, List.set_cons_zero, List.set_cons_succ])
          refine wpAnyE_take (i := 11) (oi := ?oi_12) (v := ?v_12) ?ho_12 ?h1_12 ?h2_12 ?h3_12 ?hq_12 (Or.inl ⟨?hw_12, ?hy_12⟩) ?hs_12 ?rest_12; (case h2_12 => kernel_rfl); (case h3_12 => kernel_rfl); (case ho_12 => (simp only [List.getElem?_toArray, List.getElem?_cons_zero, List.getElem?_cons_succ]; rfl)); (case h1_12 => kernel_rfl); (case hq_12 => exact fun _ _ _ h => h); (case hw_12 => rfl); (case hy_12 => (intro w' hSw; (try simp only [S] at hSw); go_simp; (try with_reducible rfl))); (case hs_12 => assumption); (try simp only [Act.put, List.setIfInBounds_toArray, List.set_cons_zero, List.set_cons_succ])
          refine wpAnyE_take (i := 12) (oi := ?oi_13) (v := ?v_13) ?ho_13 ?h1_13 ?h2_13 ?h3_13 ?hq_13 (Or.inl ⟨?hw_13, ?hy_13⟩) ?hs_13 ?rest_13; (case h2_13 => kernel_rfl); (case h3_13 => kernel_rfl); (case ho_13 => (simp only [List.getElem?_toArray, List.getElem?_cons_zero, List.getElem?_cons_succ]; rfl)); (case h1_13 => kernel_rfl); (case hq_13 => exact fun _ _ _ h => h); (case hw_13 => rfl); (case hy_13 => (intro w' hSw; (try simp only [S] at hSw); go_simp; (try with_reducible rfl))); (case hs_13 => assumption); (try simp only [Act.put, List.setIfInBounds_toArray, List.set_cons_zero, List.set_cons_succ])
          refine wpAnyE_take (i := 13) (oi := ?oi_14) (v := ?v_14) ?ho_14 ?h1_14 ?h2_14 ?h3_14 ?hq_14 (Or.inl ⟨?hw_14, ?hy_14⟩) ?hs_14 ?rest_14; (case h2_14 => kernel_rfl); (case h3_14 => kernel_rfl); (case ho_14 => (simp only [List.getElem?_toArray, List.getElem?_cons_zero, List.getElem?_cons_succ]; rfl)); (case h1_14 => kernel_rfl); (case hq_14 => exact fun _ _ _ h => h); (case hw_14 => rfl); (case hy_14 => (intro w' hSw; (try simp only [S] at hSw); go_simp; (try with_reducible rfl))); (case hs_14 => assumption); (try simp only [Act.put, List.setIfInBounds_toArray, List.set_cons_zero, List.set_cons_succ])
          refine wpAnyE_take (i := 14) (oi := ?oi_15) (v := ?v_15) ?ho_15 ?h1_15 ?h2_15 ?h3_15 ?hq_15 (Or.inl ⟨?hw_15, ?hy_15⟩) ?hs_15 ?rest_15; (case h2_15 => kernel_rfl); (case h3_15 => kernel_rfl); (case ho_15 => (simp only [List.getElem?_toArray, List.getElem?_cons_zero, List.getElem?_cons_succ]; rfl)); (case h1_15 => kernel_rfl); (case hq_15 => exact fun _ _ _ h => h); (case hw_15 => rfl); (case hy_15 => (intro w' hSw; (try simp only [S] at hSw); go_simp; (try with_reducible rfl))); (case hs_15 => assumption); (try simp only [Act.put, List.setIfInBounds_toArray, List.set_cons_zero, List.set_cons_succ])
          refine wpAnyE_take (i := 15) (oi := ?oi_16) (v := ?v_16) ?ho_16 ?h1_16 ?h2_16 ?h3_16 ?hq_16 (Or.inl ⟨?hw_16, ?hy_16⟩) ?hs_16 ?rest_16; (case h2_16 => kernel_rfl); (case h3_16 => kernel_rfl); (case ho_16 => (simp only [List.getElem?_toArray, List.getElem?_cons_zero, List.getElem?_cons_succ]; rfl)); (case h1_16 => kernel_rfl); (case hq_16 => exact fun _ _ _ h => h); (case hw_16 => rfl); (case hy_16 => (intro w' hSw; (try simp only [S] at hSw); go_simp; (try with_reducible rfl))); (case hs_16 => assumption); (try simp only [Act.put, List.setIfInBounds_toArray, List.set_cons_zero, List.set_cons_succ])
          refine wpAnyE_take (i := 16) (oi := ?oi_17) (v := ?v_17) ?ho_17 ?h1_17 ?h2_17 ?h3_17 ?hq_17 (Or.inl ⟨?hw_17, ?hy_17⟩) ?hs_17 ?rest_17; (case h2_17 => kernel_rfl); (case h3_17 => kernel_rfl); (case ho_17 => (simp only [List.getElem?_toArray, List.getElem?_cons_zero, List.getElem?_cons_succ]; rfl)); (case h1_17 => kernel_rfl); (case hq_17 => exact fun _ _ _ h => h); (case hw_17 => rfl); (case hy_17 => (intro w' hSw; (try simp only [S] at hSw); go_simp; (try with_reducible rfl))); (case hs_17 => assumption); (try simp only [Act.put, List.setIfInBounds_toArray, List.set_cons_zero, List.set_cons_succ])
          refine wpAnyE_take (i := 17) (oi := ?oi_18) (v := ?v_18) ?ho_18 ?h1_18 ?h2_18 ?h3_18 ?hq_18 (Or.inl ⟨?hw_18, ?hy_18⟩) ?hs_18 ?rest_18; (case h2_18 => kernel_rfl); (case h3_18 => kernel_rfl); (case ho_18 => (simp only [List.getElem?_toArray, List.getElem?_cons_zero, List.getElem?_cons_succ]; rfl)); (case h1_18 => kernel_rfl); (case hq_18 => exact fun _ _ _ h => h); (case hw_18 => rfl); (case hy_18 => (intro w' hSw; (try simp only [S] at hSw); go_simp; (try with_reducible rfl))); (case hs_18 => assumption); (try simp only [Act.put, List.setIfInBounds_toArray, List.set_cons_zero, List.set_cons_succ])
          refine wpAnyE_take (i := 18) (oi := ?oi_19) (v := ?v_19) ?ho_19 ?h1_19 ?h2_19 ?h3_19 ?hq_19 (Or.inl ⟨?hw_19, ?hy_19⟩) ?hs_19 ?rest_19; (case h2_19 => kernel_rfl); (case h3_19 => kernel_rfl); (case ho_19 => (simp only [List.getElem?_toArray, List.getElem?_cons_zero, List.getElem?_cons_succ]; rfl)); (case h1_19 => kernel_rfl); (case hq_19 => exact fun _ _ _ h => h); (case hw_19 => rfl); (case hy_19 => (intro w' hSw; (try simp only [S] at hSw); go_simp; (try with_reducible rfl))); (case hs_19 => assumption); (try simp only [Act.put, List.setIfInBounds_toArray, List.set_cons_zero, List.set_cons_succ])
          refine wpAnyE_take (i := 19) (oi := ?oi_22) (v := ?v_22) ?ho_22 ?h1_22 ?h2_22 ?h3_22 ?hq_22 (Or.inl ⟨?hw_22, ?hy_22⟩) ?hs_22 ?rest_22; (case h2_22 => kernel_rfl); (case h3_22 => kernel_rfl); (case ho_22 => (simp only [List.getElem?_toArray, List.getElem?_cons_zero, List.getElem?_cons_succ]; rfl)); (case h1_22 => kernel_rfl); (case hq_22 => exact fun _ _ _ h => h); (case hw_22 => rfl); (case hy_22 => (intro w' hSw; have qq := hsl w'; go_simp; (try with_reducible rfl))); (case hs_22 => assumption); (try simp only [Act.put, List.setIfInBounds_toArray, List.set_cons_zero, List.set_cons_succ])
          refine wpAnyE_take (i := 20) (oi := ?oi_23) (v := ?v_23) ?ho_23 ?h1_23 ?h2_23 ?h3_23 ?hq_23 (Or.inl ⟨?hw_23, ?hy_23⟩) ?hs_23 ?rest_23; (case h2_23 => kernel_rfl); (case h3_23 => kernel_rfl); (case ho_23 => (simp only [List.getElem?_toArray, List.getElem?_cons_zero, List.getElem?_cons_succ]; rfl)); (case h1_23 => kernel_rfl); (case hq_23 => exact fun _ _ _ h => h); (case hw_23 => rfl); (case hy_23 => (intro w' hSw; have qq := hcv w' hSw.2.2.2; go_simp; (try with_reducible rfl))); (case hs_23 => assumption); (try simp only [Act.put, List.setIfInBounds_toArray, List.set_cons_zero, List.set_cons_succ])
          refine wpAnyE_take (i := 21) (oi := ?oi_20) (v := ?v_20) ?ho_20 ?h1_20 ?h2_20 ?h3_20 ?hq_20 (Or.inl ⟨?hw_20, ?hy_20⟩) ?hs_20 ?rest_20; (case h2_20 => kernel_rfl); (case h3_20 => kernel_rfl); (case ho_20 => (simp only [List.getElem?_toArray, List.getElem?_cons_zero, List.getElem?_cons_succ]; rfl)); (case h1_20 => kernel_rfl); (case hq_20 => exact fun _ _ _ h => h); (case hw_20 => rfl); (case hy_20 => (intro w' hSw; (try simp only [S] at hSw); go_simp; (try with_reducible rfl))); (case hs_20 => assumption); (try simp only [Act.put, List.setIfInBounds_toArray, List.set_cons_zero, List.set_cons_succ])
          have hs1 := fun W => run_slice1 (P := Tryd.prog) (t := 43) pcZ' Tryd.underlying43 (s := 2) rfl (by omega) (by omega) pc.cells rfl W
          have hbA : Below wr.heap.size wr (wr.drew.alloc (.cells pc.cells.toArray 47)) := (Below.refl _ _).drew.alloc (Nat.le_refl _) _
          have hwr : w.heap.size ≤ wr.heap.size := hbw2.size
          have hSB : ∀ w', Below wr.heap.size wr w' → S w' := fun w' hb => ⟨(hb.cell (p := ⟨L, 4, none⟩) hLr).trans hS0.1, (hb.cell (p := ⟨b, o + a2, none⟩) (by show b < _; omega)).trans HM.out.1, (hb.cell (p := ⟨b, o + t1, none⟩) (by show b < _; omega)).trans HM.out.2, hbw2.trans (hb.mono hwr)⟩
          have hS22 := hSB _ hbA
          refine wpAnyE_ready (rs := [22]) (by kernel_rfl) (by simp) (AllReadyE.cons (o := ?oo22_24) ?hoo22_24 (fun K hK => ?steponly24) AllReadyE.nil); (case hoo22_24 => (simp only [List.getElem?_toArray, List.getElem?_cons_zero, List.getElem?_cons_succ]; rfl))
          refine step_slice rfl 43 1 #[(0, .tmp 120)] rfl (by simp only [List.map_toArray, List.map_cons, List.map_nil]; exact hs1 wr.drew) ?_
          refine hK.out _ _ (fun _ => hS22) (fun _ => ?_)
          clear hK K
          (try simp only [Act.put, List.setIfInBounds_toArray, List.set_cons_zero, List.set_cons_succ])
          clear hs1 gw1 gw3 gy0 gy1 gy2 gy3 hsl hcv
          have hx58 : Sl (wr.drew.alloc (.cells pc.cells.toArray 47)) (wr.drew.alloc (.cells pc.cells.toArray 47)).heap.size 2 (some ⟨wr.heap.size, 0, none⟩) 1 pc.cells := Sl.new (sz := 2) (n := 1) (heap_alloc_new wr.drew _) rfl
          have hone : ∀ u ∈ pc.cells, u.oneCell' = true := fun u hu => one_pcs [pc] u (by simpa [pcs] using hu)
          have hown20 := own_below HNX.out.2.2.1 hbA
          have hb20s : L + 1 ≤ (wr.drew.alloc (.cells pc.cells.toArray 47)).heap.size := by have := hbA.size; omega
          have hmp5 : mp ≤ 255 := by omega
          refine wpAnyE_ready (rs := [23]) (by kernel_rfl) (by simp) (AllReadyE.cons (o := ?oo23_25) ?hoo23_25 (fun K hK => ?steponly25) AllReadyE.nil); (case hoo23_25 => (simp only [List.getElem?_toArray, List.getElem?_cons_zero, List.getElem?_cons_succ]; rfl))
          refine step_app _ rfl (.tmp 100) (.tmp 121) 43 rfl (base := L + 1) Tryd.underlying43 elemPc rfl hown20 rfl hx58 hone (by simp only [maxLen]; omega) (by omega) hb20s ?_
          intro A21 c21 w21 hown21 hg21 hb21 hat21
          have hB21 : Below (L + 1) wr w21 := (hbA.mono (by omega)).trans hb21
          have rL21 : w21.heap[L]? = some (.cells #[.int .i64 kd, .bool f2, .bool f3, .bool f4, .slice A7 mp c7] 45) := (hB21.block L (by omega)).trans hrL
          have hS23 : S w21 := ⟨blk_cell rL21 rfl, (hB21.cell (p := ⟨b, o + a2, none⟩) (by show b < _; omega)).trans HM.out.1, (hB21.cell (p := ⟨b, o + t1, none⟩) (by show b < _; omega)).trans HM.out.2, hbw2.trans (hB21.mono (by omega))⟩
          refine hK.out _ _ (fun _ => hS23) (fun _ => ?_)
          clear hK K
          (try simp only [Act.put, List.setIfInBounds_toArray, List.set_cons_zero, List.set_cons_succ])
          have d4 : w21.cell? ⟨L, 4, none⟩ = some (.slice A7 mp c7) := blk_cell rL21 rfl
          have e4 := blk_frozen rL21 4
          refine wpAnyE_take (i := 24) (oi := ?oi_21) (v := ?v_21) ?ho_21 ?h1_21 ?h2_21 ?h3_21 ?hq_21 (Or.inl ⟨?hw_21, ?hy_21⟩) ?hs_21 ?rest_21; (case h2_21 => kernel_rfl); (case h3_21 => kernel_rfl); (case ho_21 => (simp only [List.getElem?_toArray, List.getElem?_cons_zero, List.getElem?_cons_succ]; rfl)); (case h1_21 => kernel_rfl); (case hq_21 => exact fun _ _ _ h => h); (case hw_21 => rfl); (case hy_21 => (intro w' hSw; (try simp only [S] at hSw); go_simp; (try with_reducible rfl))); (case hs_21 => assumption); (try simp only [Act.put, List.setIfInBounds_toArray, List.set_cons_zero, List.set_cons_succ])
          refine wpAnyE_ready (rs := [25]) (by kernel_rfl) (by simp) (AllReadyE.cons (o := ?oo25_26) ?hoo25_26 (fun K hK => ?steponly26) AllReadyE.nil); (case hoo25_26 => (simp only [List.getElem?_toArray, List.getElem?_cons_zero, List.getElem?_cons_succ]; rfl))
          go_simp
          refine hK.out _ _ (fun h => absurd rfl h) (fun _ => ?_)
          clear hK K
          (try simp only [Act.put, List.setIfInBounds_toArray, List.set_cons_zero, List.set_cons_succ])
          refine wpAnyE_done (by kernel_rfl) ?_ _
          have hbV : Below L wo (w21.setCell ⟨L, 4, none⟩ (.slice A21 (mp + 1) c21)) := (hbi.trans (hB21.mono (Nat.le_succ L))).setCell (Nat.le_refl _) _
          have hoV : (w21.setCell ⟨L, 4, none⟩ (.slice A21 (mp + 1) c21)).ownsRow (L + 1) 47 2 (.slice A21 (mp + 1) c21) (mp + 1) (pcs ps ++ pc.cells) := ownsRow_setCell_below hown21 (a := ⟨L, 4, none⟩) (by show L < L + 1; omega) _
          have hrV : (w21.setCell ⟨L, 4, none⟩ (.slice A21 (mp + 1) c21)).heap[L]? = some (.cells #[.int .i64 kd, .bool f2, .bool f3, .bool f4, .slice A21 (mp + 1) c21] 45) := blk_set rL21 4 _
          have HV := Lib.hid (And.intro hbV (And.intro hoV hrV))
          have h4n : t4 ≤ n := by have := HNX.out.2.2.2; have := H4.out; omega
          clear hbV hoV hrV d4 e4 rL21 hS23 hS22 hB21 hbA hown21 hg21 hb21 hat21 hown20 hx58 hone hb20s hpcc hS0 hrL hSB
          go_wp2_with fail
          go_roundw
          case rel =>
            refine ⟨j + 1, mp + 1, t4, A21, c21, by omega, by omega, h4n, by go_num, rfl, HV.out.2.2, HV.out.1, Lib.hid ⟨ps ++ [pc], ?_, HNX.out.2.1, ?_⟩⟩
            · rw [List.length_append, ← HNX.out.1]; rfl
            · rw [pcs_append]; simpa [pcs] using HV.out.2.1
          case measure => simp [intOf]; omega
        · have hjn : j = nbN := by omega
          obtain ⟨ps, hml, hrp, hown⟩ := HI2.out
          obtain ⟨l, ls, hlm, hsm, hrd, hownl, hpo, hkdl, r0⟩ := HI.out
          have hLw : wo.heap.size = L := HL3.out.2.2.1
          have hbwo : Below wo.heap.size wo wr := by rw [hLw]; exact hbi
          have hownl2 := own_below hownl hbwo
          have hpo2 := hpo.nxt hbwo
          have hrT2 : wr.heap[T]? = some (.cells #[.int .i64 (num : Int), .slice A5 m c5] 24) := bBlk hbi hTL HL3.out.2.2.2
          have e1 : at8 (bb.drop a) 1 = nb := by rw [at8_drop]; exact HKB.out.2
          have e2 : at8 (bb.drop a) 0 = kb := by rw [at8_drop, Nat.add_zero]; exact HKB.out.1
          have hrp' : rdPs nbN ([], ⟨bb.drop (a + 2), true⟩) = (ps, ⟨bb.drop a2, true⟩) := by rw [← hjn]; exact hrp
          have hld : lineD ⟨bb.drop a, true⟩ = ((⟨(kb.toNat % 4 : Nat), kb.toNat / 4 % 2 == 1, kb.toNat / 8 % 2 == 1, kb.toNat / 16 % 2 == 1, .slice none 0 0⟩, ps), ⟨bb.drop a2, true⟩) := by
            rw [lineD_ok (by rw [List.length_drop, HS.out.2.1]; omega), e1, e2, HNB.out, List.drop_drop, hrp']
          have hpw : ∀ x ∈ ps, -9223372036854775808 ≤ x.x ∧ x.x ≤ 9223372036854775807 := by
            have := lineD_pc (s := ⟨bb.drop a, true⟩)
            rw [hld] at this
            exact this
          have hmore := rdLs_more (s := ([], ⟨bb.drop 2, true⟩)) (j := i) (by rw [hrd]) (by rw [hrd]) rfl
          rw [hld] at hmore
          have b2n := bool_nat (k := kb.toNat) (d := 4) (by omega)
          have b3n := bool_nat (k := kb.toNat) (d := 8) (by omega)
          have b4n := bool_nat (k := kb.toNat) (d := 16) (by omega)
          have hsame : SameR ((⟨kd, f2, f3, f4, .slice A7 mp c7⟩ : LN), ps) ((⟨(kb.toNat % 4 : Nat), kb.toNat / 4 % 2 == 1, kb.toNat / 8 % 2 == 1, kb.toNat / 16 % 2 == 1, .slice none 0 0⟩ : LN), ps) :=
            ⟨by rw [← HF.out.1]; simp, by rw [← HF.out.2.1, ← b2n]; rfl, by rw [← HF.out.2.2.1, ← b3n]; rfl, by rw [← HF.out.2.2.2, ← b4n]; rfl, rfl⟩
          have hkd3 : 0 ≤ kd ∧ kd ≤ 3 := by rw [← HF.out.1]; omega
          have hlb := hownl.lt
          have hpl := hown.lt
          have hpo3 : PcOwn wr (T + 1) (Value.slice A5 m c5).ownBlock (l ++ [((⟨kd, f2, f3, f4, .slice A7 mp c7⟩ : LN), ps)]) := hpo2.snoc (A := A7) (n := mp) (c := c7) rfl hml (own_base hown (by omega)) hpw (fun b hb e => by
            have h1 := (hpl b hb).1
            have h2 := (hlb b e).2
            omega)
          have hx128 : Sl (wr.alloc (.cells #[.int .i64 kd, .bool f2, .bool f3, .bool f4, .slice A7 mp c7] 45)) (wr.alloc (.cells #[.int .i64 kd, .bool f2, .bool f3, .bool f4, .slice A7 mp c7] 45)).heap.size 5 (some ⟨wr.heap.size, 0, none⟩) 1 (LN.cells ⟨kd, f2, f3, f4, .slice A7 mp c7⟩) := Sl.new (sz := 5) (n := 1) (heap_alloc_new wr _) rfl
          have hone : ∀ u ∈ LN.cells ⟨kd, f2, f3, f4, .slice A7 mp c7⟩, u.oneCell' = true := fun u hu => by
            have := one_lns (l := [(⟨kd, f2, f3, f4, .slice A7 mp c7⟩ : LN)]) (fun y hy => by rw [List.mem_singleton.1 hy]; rfl) u
            exact this (by simpa [lns] using hu)
          have hown28 := hownl2.alloc (.cells #[.int .i64 kd, .bool f2, .bool f3, .bool f4, .slice A7 mp c7] 45)
          have hLsz := (Array.getElem?_eq_some_iff.1 hrL).1
          have hb28s : T + 1 ≤ (wr.alloc (.cells #[.int .i64 kd, .bool f2, .bool f3, .bool f4, .slice A7 mp c7] 45)).heap.size := by simp; omega
          have k0 : wr.cell? ⟨L, 0, none⟩ = some (.int .i64 kd) := blk_cell hrL rfl
          have k1 : wr.cell? ⟨L, 1, none⟩ = some (.bool f2) := blk_cell hrL rfl
          have k2 : wr.cell? ⟨L, 2, none⟩ = some (.bool f3) := blk_cell hrL rfl
          have k3 : wr.cell? ⟨L, 3, none⟩ = some (.bool f4) := blk_cell hrL rfl
          have k4 : wr.cell? ⟨L, 4, none⟩ = some (.slice A7 mp c7) := blk_cell hrL rfl
          have d0 : wr.cell? ⟨T, 1, none⟩ = some (.slice A5 m c5) := blk_cell hrT2 rfl
          have hTs := (Array.getElem?_eq_some_iff.1 hrT2).1
          have HQ := Lib.hid (And.intro hlm (And.intro hsm (And.intro hmore (And.intro hsame (And.intro hkd3 (And.intro hpo3 (And.intro hrT2 (And.intro hkdl rr))))))))
          have hm9 : m ≤ 255 := by omega
          clear hml hrp hown hlm hsm hrd hownl hpo hkdl r0 hbwo hownl2 hpo2 hrT2 e1 e2 hrp' hld hpw hmore b2n b3n b4n hsame hkd3 hlb hpl hpo3 hrL rr hLw
          go_upto_region 21 with (fail)
          go_wp2_with (first
            | (refine wpList_app _ rfl (.tmp 126) (.tmp 128) 22 rfl (base := T + 1) Tryd.underlying22 elemLn rfl hown28 rfl hx128 hone (by simp only [maxLen]; omega) (by omega) hb28s ?_)
            | fail)
          intro A29 c29 w29 hown29 hg29 hb29 hat29
          have hbA : Below wr.heap.size wr (wr.alloc (.cells #[.int .i64 kd, .bool f2, .bool f3, .bool f4, .slice A7 mp c7] 45)) := (Below.refl _ _).alloc (Nat.le_refl _) _
          have hB29 : Below (T + 1) wr w29 := (hbA.mono (by omega)).trans hb29
          have rT29 : w29.heap[T]? = some (.cells #[.int .i64 (num : Int), .slice A5 m c5] 24) := (hB29.block T (by omega)).trans HQ.out.2.2.2.2.2.2.1
          have hpo29 := (HQ.out.2.2.2.2.2.1.nxt hbA).grown hg29 (by rw [World.size_alloc]; exact hat29)
          have d4 : w29.cell? ⟨T, 1, none⟩ = some (.slice A5 m c5) := blk_cell rT29 rfl
          have e4 := blk_frozen rT29 1
          have hbV : Below w.heap.size w (w29.setCell ⟨T, 1, none⟩ (.slice A29 (m + 1) c29)) := (hbw2.trans (hB29.mono (by omega))).setCell (by show w.heap.size ≤ T; omega) _
          have hoV := ownsRow_setCell_below hown29 (a := ⟨T, 1, none⟩) (by show T < T + 1; omega) (.slice A29 (m + 1) c29)
          have hpV := hpo29.set (a := ⟨T, 1, none⟩) (by show T < T + 1; omega) (.slice A29 (m + 1) c29)
          have hrV : (w29.setCell ⟨T, 1, none⟩ (.slice A29 (m + 1) c29)).heap[T]? = some (.cells #[.int .i64 (num : Int), .slice A29 (m + 1) c29] 24) := blk_set rT29 1 _
          have h0V : (w29.setCell ⟨T, 1, none⟩ (.slice A29 (m + 1) c29)).heap[w.heap.size]? = some (.cells #[.int .i64 0, .slice none 0 0] 24) := blk_far ((hB29.block w.heap.size (by omega)).trans HQ.out.2.2.2.2.2.2.2.2) _ (by show w.heap.size ≠ T; omega)
          have HV := Lib.hid (And.intro hbV (And.intro hoV (And.intro hpV (And.intro hrV h0V))))
          clear hbV hoV hpV hrV h0V hbA hB29 rT29 hpo29 hown29 hg29 hb29 hat29 hown28 hx128 hone hb28s k0 k1 k2 k3 k4 d0
          (try simp only [Act.put, List.setIfInBounds_toArray, List.set_cons_zero, List.set_cons_succ])
          go_wp2_with fail
          go_roundw
          case rel =>
            obtain ⟨hbV, hoV, hpV, hrV, h0V⟩ := HV.out
            obtain ⟨hlm, hsm, hmore, hsame, hkd3, -, -, hkdl, -⟩ := HQ.out
            refine ⟨i + 1, m + 1, a2, A29, c29, by omega, by omega, haa, by go_num, rfl, hrV, hbV, Lib.hid ⟨l ++ [((⟨kd, f2, f3, f4, .slice A7 mp c7⟩ : LN), ps)], ls ++ [_], by rw [List.length_append, ← hlm]; rfl, hsm.snoc hsame, hmore, ?_, hpV, fun r hr => ?_, h0V⟩⟩
            · have e5 : lns (lnsOf (l ++ [((⟨kd, f2, f3, f4, .slice A7 mp c7⟩ : LN), ps)])) = lns (lnsOf l) ++ LN.cells ⟨kd, f2, f3, f4, .slice A7 mp c7⟩ := by
                unfold lnsOf; rw [List.map_append, lns_append]; simp [lns]
              rw [e5]
              exact hoV
            · rcases List.mem_append.1 hr with hr | hr
              · exact hkdl r hr
              · rw [List.mem_singleton.1 hr]; exact hkd3
          case measure => simp [intOf]; omega
    · have hin : i = n1 := by omega
      obtain ⟨l, ls, hlm, hsm, hrd, hown, hpo, hkd, rr⟩ := HI.out
      rw [hin] at hrd
      have hrn := hpo.rn hown hlm.symm hkd
      have hc5 : c5 ≤ maxLen := by obtain ⟨_, _, e, -, h⟩ := own_form hown; cases e; exact h
      have v0 : wr.cell? ⟨T, 0, none⟩ = some (.int .i64 (num : Int)) := blk_cell hrT rfl
      have v1 : wr.cell? ⟨T, 1, none⟩ = some (.slice A5 m c5) := blk_cell hrT rfl
      have hRP := renc_any (num := num) (by omega) wr hrn hc5 (by omega)
      have hR0 := (Array.getElem?_eq_some_iff.1 rr).1
      have HRP := Lib.hid hRP
      have HZ := Lib.hid (And.intro hsm (And.intro hrd (And.intro hown (And.intro hpo (And.intro hkd (And.intro rr (And.intro hbr (And.intro hlm hc5))))))))
      clear hlm hsm hrd hown hpo hkd rr hrn hc5 hRP hbr hrT
      go_wp2_with fail
      refine Calls.mono HRP.out ?_
      rintro e w9 hrp9
      rcases hrp9 with ⟨hgd, A9, n9, c9, rfl, hn9, hnc9, -, -, hsl9, b9⟩ | ⟨hbad, A9, n9, c9, rfl, -, -, -, -, -, b9⟩
      case inr =>
        have hno : ¬ OkD bb := fun h => hbad (by
          have h1 := h.1
          rw [HD.out.1, HD.out.2, HZ.out.2.1] at h1
          exact h1.same HZ.out.1.symm)
        have rr := bBlk b9 hR0 HZ.out.2.2.2.2.2.1
        have hbx := HZ.out.2.2.2.2.2.2.1.trans (b9.mono hzr)
        clear hbad b9 v0 v1
        have z0 : w9.cell? ⟨w.heap.size, 0, none⟩ = some (.int .i64 0) := blk_cell rr rfl
        have z1 : w9.cell? ⟨w.heap.size, 1, none⟩ = some (.slice none 0 0) := blk_cell rr rfl
        have f0 := blk_frozen rr 0
        have f1 := blk_frozen rr 1
        have HB := Lib.hid (And.intro hbx rr)
        have HNO := Lib.hid hno
        clear rr hbx hno
        go_wp2_with fail
        refine rdec_done (R := w.heap.size) (num := 0) (er := 11) rfl rfl (blk_set (blk_set HB.out.2 0 _) 1 _) rfl (DecP.no ?_ HNO.out)
        exact (HB.out.1.setCell (Nat.le_refl _) _).setCell (Nat.le_refl _) _
      have hbx := HZ.out.2.2.2.2.2.2.1.trans (b9.mono hzr)
      have cv1 := run_str (P := Tryd.prog) (dst := 9) hsl9 c9 Tryd.underlying25 Tryd.underlying5 Tryd.underlying9
      have cv2 := run_str (P := Tryd.prog) (dst := 9) (HS.out.1.below hbx) c Tryd.underlying25 Tryd.underlying5 Tryd.underlying9
      obtain ⟨xe, hxe⟩ : ∃ q, encB num l = q := ⟨_, rfl⟩
      rw [hxe] at cv1
      have rr := bBlk b9 hR0 HZ.out.2.2.2.2.2.1
      by_cases hbq : xe = bb
      case neg =>
        have hno : ¬ OkD bb := fun h => hbq (by
          have h1 := h.2.2
          rw [HD.out.1, HD.out.2, HZ.out.2.1, ← encB_same HZ.out.1, hxe] at h1
          exact h1)
        have hbe : (xe == bb) = false := by simpa using hbq
        clear hgd hxe hn9 hsl9 v0 v1 b9
        have z0 : w9.cell? ⟨w.heap.size, 0, none⟩ = some (.int .i64 0) := blk_cell rr rfl
        have z1 : w9.cell? ⟨w.heap.size, 1, none⟩ = some (.slice none 0 0) := blk_cell rr rfl
        have f0 := blk_frozen rr 0
        have f1 := blk_frozen rr 1
        have HB := Lib.hid (And.intro hbx rr)
        have HNO := Lib.hid hno
        clear rr hbx hno
        go_wp2_with fail
        refine rdec_done (R := w.heap.size) (num := 0) (er := 11) rfl rfl (blk_set (blk_set HB.out.2 0 _) 1 _) rfl (DecP.no ?_ HNO.out)
        exact (HB.out.1.setCell (Nat.le_refl _) _).setCell (Nat.le_refl _) _
      have hbe : (xe == bb) = true := by simpa using hbq
      have y0 : w9.cell? ⟨T, 0, none⟩ = some (.int .i64 (num : Int)) := (b9.cell (p := ⟨T, 0, none⟩) hTr).trans v0
      have y1 : w9.cell? ⟨T, 1, none⟩ = some (.slice A5 m c5) := (b9.cell (p := ⟨T, 1, none⟩) hTr).trans v1
      have z0 : w9.cell? ⟨w.heap.size, 0, none⟩ = some (.int .i64 0) := blk_cell rr rfl
      have z1 : w9.cell? ⟨w.heap.size, 1, none⟩ = some (.slice none 0 0) := blk_cell rr rfl
      have f0 := blk_frozen rr 0
      have f1 := blk_frozen rr 1
      have HB := Lib.hid (And.intro hbx (And.intro rr (And.intro b9 (And.intro hgd (hxe.trans hbq)))))
      clear hgd hxe hn9 hsl9 v0 v1 b9 hbx rr hbq
      go_wp2_with fail
      refine rdec_done (R := w.heap.size) (num := num) (er := 0) rfl rfl (blk_set (blk_set HB.out.2.1 0 _) 1 _) rfl ?_
      obtain ⟨hsm, hrd, hown, hpo, hkd, -, -, hlm, hc5⟩ := HZ.out
      have hlt' : w.heap.size < T + 1 := by omega
      refine ⟨num, A5, m, c5, l, 0, rfl, (HB.out.1.setCell (Nat.le_refl _) _).setCell (Nat.le_refl _) _, ?_, hc5, by omega, by omega, .inl ⟨rfl, ?_, HD.out.1.symm, ?_⟩⟩
      · exact (((hpo.nxt HB.out.2.2.1).set (a := ⟨w.heap.size, 0, none⟩) hlt' _).set (a := ⟨w.heap.size, 1, none⟩) hlt' _).rn (ownsRow_setCell_below (ownsRow_setCell_below (own_below hown HB.out.2.2.1) (a := ⟨w.heap.size, 0, none⟩) hlt' _) (a := ⟨w.heap.size, 1, none⟩) hlt' _) hlm.symm hkd
      · refine ⟨?_, ?_, ?_⟩
        · rw [HD.out.1, HD.out.2, hrd]; exact HB.out.2.2.2.1.same hsm
        · rw [HD.out.2, hrd]
        · rw [HD.out.1, HD.out.2, hrd, ← encB_same hsm]; exact HB.out.2.2.2.2
      · rw [HD.out.2, hrd]; exact hsm
end Go.Proofs.YtiffcdeagckgmaaDoor
