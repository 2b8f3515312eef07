/- sheet.Decode, the walk. -/
import Derived.Test.YtiffcdeagckgmaaDoorShDec
namespace Go.Proofs.YtiffcdeagckgmaaDoor
set_option linter.unusedSimpArgs false
set_option linter.unusedVariables false
open Go.RowKit Go.ChangeShapes Go.WideShapes Go.Sort Go.Deep
attribute [-go_sem] Builtin.append_

theorem shZ : ZeroIs Tryd.prog 24 #[.int .i64 0, .slice none 0 0] := by unfold ZeroIs; kernel_rfl
theorem sh_size : (Tryd.prog.info? 24).map (·.size) = some 2 := by kernel_rfl
theorem RSame.snoc {l m : List (LN × List PC)} (h : RSame l m) {r s : LN × List PC} (hr : SameR r s) : RSame (l ++ [r]) (m ++ [s]) := by
  refine ⟨by rw [List.length_append, List.length_append, h.len]; rfl, fun k a b h1 h2 => ?_⟩
  rcases Nat.lt_or_ge k l.length with h3 | h3
  · rw [List.getElem?_append_left h3] at h1
    rw [List.getElem?_append_left (by rw [← h.len]; exact h3)] at h2
    exact h.at_ k a b h1 h2
  · rw [List.getElem?_append_right h3] at h1
    rw [List.getElem?_append_right (by rw [← h.len]; exact h3), ← h.len] at h2
    have hk : k - l.length = 0 := by
      rcases Nat.eq_zero_or_pos (k - l.length) with h4 | h4
      · exact h4
      · rw [List.getElem?_eq_none (by simp; omega)] at h1; cases h1
    rw [hk] at h1 h2
    cases h1
    cases h2
    exact hr
theorem dec_done {a : Act} {V : World} {R : Nat} {num er : Int} {A : Option Addr} {n c : Nat} {Q : Ending → World → Prop} (hR : a.tmps.getD 2 undef = .pointer (some ⟨R, 0, none⟩)) (h3 : a.tmps.getD 3 undef = .int .i64 er)
    (hV : V.heap[R]? = some (.cells #[.int .i64 num, .slice A n c] 24)) (hd : a.defers = []) (h : Q (.returned (.tuple #[.agg #[.int .i64 num, .slice A n c], .int .i64 er])) V) : bodyPost Tryd.prog Tryd.f12 Q Exit.ret a V := by
  have hl := run_loadVar_row (P := Tryd.prog) V R 24 24 #[.int .i64 num, .slice A n c] (0, 0) _ hV Tryd.underlying24 rfl sh_size
  have hR' : a.tmps[2]?.getD undef = .pointer (some ⟨R, 0, none⟩) := by simpa using hR
  have h3' : a.tmps[3]?.getD undef = .int .i64 er := by simpa using h3
  refine bodyPost_ret ?_ hd h
  simp [results, Tryd.results12, asAddr, hR', h3', hl]
def DecP (w : World) (b : List UInt8) (e : Ending) (w' : World) : Prop :=
  ∃ (num : Int) (A : Option Addr) (n c : Nat) (l : List (LN × List PC)) (er : Int), e = .returned (.tuple #[.agg #[.int .i64 num, .slice A n c], .int .i64 er]) ∧ Below w.heap.size w w' ∧ RnAt w' w'.heap.size A n c l ∧ c ≤ maxLen ∧ 0 ≤ num ∧ num ≤ 255 ∧
    ((er = 0 ∧ OkD b ∧ num = decN b ∧ RSame l (decS b).1) ∨ (er = 11 ∧ ¬ OkD b ∧ num = 0 ∧ n = 0 ∧ c = 0 ∧ A = none ∧ l = []))
theorem DecP.no {w w' : World} {b : List UInt8} (h : Below w.heap.size w w') (hb : ¬ OkD b) : DecP w b (.returned (.tuple #[.agg #[.int .i64 0, .slice none 0 0], .int .i64 11])) w' :=
  ⟨0, none, 0, 0, [], 11, rfl, h, ⟨⟨rfl, Sl.nil, Nat.le_refl _, fun x hx => by cases hx⟩, fun r hr => by cases hr⟩, by simp [maxLen], by omega, by omega, .inr ⟨rfl, hb, rfl, rfl, rfl, rfl, rfl⟩⟩
set_option maxRecDepth 100000 in
set_option maxHeartbeats 16000000 in
theorem dec_any {A : Option Addr} {n c : Nat} {bb : List UInt8} (w : World) (hs : Sl w w.heap.size 1 A n (bvs bb)) (hc : n ≤ c) (hm : c ≤ maxLen) (hn : n ≤ 1000000) (hT : Tabs w) :
    Calls Tryd.prog 12 #[.slice A n c] w (DecP w bb) := by
  have hbn : bb.length = n := by have := hs.len; rw [bvs_len] at this; omega
  have HS := Lib.hid (And.intro hs (And.intro hbn (And.intro hm hT)))
  clear hs hbn hT hm
  go_enter Tryd.func12, Tryd.ntmps12
  go_wp2_with fail
  obtain ⟨W0, hW0⟩ : ∃ q, (w.alloc (.cells #[.int .i64 0, .slice none 0 0] 24)).alloc (.cells #[.slice A n c, .bool true] 60) = q := ⟨_, rfl⟩
  have b0 : Below w.heap.size w W0 := by rw [← hW0]; exact ((Below.refl _ _).alloc (Nat.le_refl _) _).alloc (by simp) _
  have r0 : W0.heap[w.heap.size]? = some (.cells #[.int .i64 0, .slice none 0 0] 24) := by
    rw [← hW0]; exact (Below.heap_alloc _ _ _ (by simp)).trans (heap_alloc_new _ _)
  have rp : W0.heap[w.heap.size + 1]? = some (.cells #[.slice A n c, .bool true] 60) := by rw [← hW0]; exact heap_alloc_new2 _ _ _
  rw [hW0]
  clear hW0
  have hrd0 : RdAt W0 (w.heap.size + 1) ⟨bb, true⟩ := ⟨A, n, c, rp, HS.out.2.1.symm, (HS.out.1.below b0).mono (by omega), hc, HS.out.2.2.1⟩
  obtain ⟨p, hp⟩ : ∃ q, w.heap.size + 1 = q := ⟨_, rfl⟩
  rw [hp] at hrd0 rp ⊢
  have hpw := hrd0.lt
  refine Calls.mono (take_any (k := 2) W0 hrd0 (by omega)) ?_
  rintro e w1 ⟨A1, c1, rfl, hof, hrd, hbt, hc1, -, -⟩
  obtain ⟨b, o, rfl, hbp, hbl, -⟩ := hof.at_ (by omega)
  have m0 := hof.cellAt rfl (i := 0) (by omega)
  have m1 := hof.cellAt rfl (i := 1) (by omega)
  obtain ⟨x0, hx0⟩ : ∃ q, at8 (takeD 2 ⟨bb, true⟩).1 0 = q := ⟨_, rfl⟩
  obtain ⟨x1, hx1⟩ : ∃ q, at8 (takeD 2 ⟨bb, true⟩).1 1 = q := ⟨_, rfl⟩
  rw [hx0] at m0
  rw [hx1] at m1
  rw [Nat.add_zero] at m0
  obtain ⟨S1, hS1⟩ : ∃ q, (takeD 2 ⟨bb, true⟩).2 = q := ⟨_, rfl⟩
  rw [hS1] at hrd
  have l0 := x0.toNat_lt
  have l1 := x1.toNat_lt
  have r1 := hbt.blk (by omega) (by omega) r0
  have hwB : Below w.heap.size w w1 := b0.trans (hbt.below (by omega) (fun k hk => by omega))
  have HX := Lib.hid (And.intro hx0 (And.intro hx1 (And.intro hS1 (And.intro hrd (And.intro r1 hwB)))))
  have HP := Lib.hid hp
  clear hx0 hx1 hS1 hrd r0 r1 rp hwB hof hbt b0 hrd0
  go_upto_region 4 with (fail)
  obtain ⟨num, hnum⟩ : ∃ q : Nat, x0.toNat = q := ⟨_, rfl⟩
  rw [hnum] at l0 ⊢
  obtain ⟨W2, hW2⟩ : ∃ q, w1.alloc (.cells #[.int .i64 (num : Int), .slice none 0 0] 24) = q := ⟨_, rfl⟩
  rw [hW2]
  obtain ⟨hx0, hx1, hS1, hrd, r1, hwB⟩ := HX.out
  have rL : W2.heap[w1.heap.size]? = some (.cells #[.int .i64 (num : Int), .slice none 0 0] 24) := by rw [← hW2]; exact heap_alloc_new _ _
  have b2 : Below w1.heap.size w1 W2 := by rw [← hW2]; exact (Below.refl _ _).alloc (Nat.le_refl _) _
  clear hW2
  have m1 : W2.cell? ⟨b, o + 1, none⟩ = some (.int .u8 (x1.toNat : Int)) := (b2.cell (p := ⟨b, o + 1, none⟩) hbl).trans m1
  have hpw1 := hrd.lt
  have r2 := bBlk b2 (by have := HP.out; omega) r1
  have hrd2 := hrd.next b2
  have hwB2 : Below w.heap.size w W2 := hwB.trans (b2.mono hwB.size)
  obtain ⟨T, hTT⟩ : ∃ q, w1.heap.size = q := ⟨_, rfl⟩
  rw [hTT] at rL hpw1 ⊢
  have hLW := (Array.getElem?_eq_some_iff.1 rL).1
  have HY := Lib.hid (And.intro rL (And.intro r2 (And.intro hrd2 hwB2)))
  clear hx0 hx1 hS1 hrd r1 hwB rL r2 hrd2 hwB2 b2 hTT m0 hbl
  have hn255 : x1.toNat ≤ 255 := by omega
  go_wp2_with fail
  obtain ⟨n1, hn1⟩ : ∃ q, x1.toNat = q := ⟨_, rfl⟩
  rw [hn1] at hn255 ⊢
  have hD : decN bb = (num : Int) ∧ decS bb = rdLs n1 ([], S1) := by
    have h1 := HX.out
    unfold decN decS
    rw [h1.1, h1.2.1, h1.2.2.1, hn1, hnum]
    exact ⟨rfl, rfl⟩
  have HD := Lib.hid hD
  clear hn1 m1 l1 hD hnum
  go_loopw [23] (fun s23 wr => ∃ (j m : Nat) (A5 : Option Addr) (c5 : Nat), j ≤ n1 ∧ m ≤ j ∧ s23 = .int .i64 j ∧ wr.heap[T]? = some (.cells #[.int .i64 (num : Int), .slice A5 m c5] 24) ∧ Hid (∃ l, m = l.length ∧ RSame l (rdLs j ([], S1)).1 ∧ wr.ownsRow (T + 1) 45 5 (.slice A5 m c5) m (lns (lnsOf l)) ∧ PcOwn wr (T + 1) (Value.slice A5 m c5).ownBlock l ∧ (∀ r ∈ l, 0 ≤ r.1.kind ∧ r.1.kind ≤ 3) ∧ RdAt wr p (rdLs j ([], S1)).2 ∧ Below w.heap.size w wr ∧ wr.heap[w.heap.size]? = some (.cells #[.int .i64 0, .slice none 0 0] 24))) (fun q _ => n1 - (intOf q).toNat)
  case atStart => exact ⟨0, 0, none, 0, by omega, by omega, rfl, HY.out.1, Lib.hid ⟨[], rfl, RSame.refl _, World.ownsRow_nil _ _ _ _, (fun r hr => by cases hr), (fun r hr => by cases hr), HY.out.2.2.1, HY.out.2.2.2, HY.out.2.1⟩⟩
  case round =>
    obtain ⟨j, m, A5, c5, hj, hm, rfl, hrL, HI⟩ := hrel
    by_cases hlt : j < n1
    · have g4 : (j : Int) < n1 := by omega
      obtain ⟨ls, hls⟩ : ∃ q, (rdLs j ([], S1)).1 = q := ⟨_, rfl⟩
      obtain ⟨st, hst⟩ : ∃ q, (rdLs j ([], S1)).2 = q := ⟨_, rfl⟩
      have e2 := HI.out
      rw [hls, hst] at e2
      have hrd : RdAt wr p st := by obtain ⟨_, -, -, -, -, -, h, -⟩ := e2; exact h
      obtain ⟨Ar, nr, cr, t1, -⟩ := hrd.at_
      have k1 : wr.cell? ⟨p, 1, none⟩ = some (.bool st.ok) := blk_cell t1 rfl
      clear t1
      have hplt := hrd.lt
      cases hok : st.ok
      · rw [hok] at k1
        have HQ := Lib.hid (And.intro hls (And.intro hst hok))
        clear hls hst hok
        have hfin := Lib.hid (show (rdLs n1 ([], S1)).1 = ls ∧ (rdLs n1 ([], S1)).2 = st by
          rw [rdLs_stop (j := j) (by rw [HQ.out.2.1]; exact HQ.out.2.2) n1 hj]; exact ⟨HQ.out.1, HQ.out.2.1⟩)
        obtain ⟨l, hml, hsm, hown, hpo, hkd, hrd, hbw, r0⟩ := e2
        have hrn := hpo.rn hown hml.symm hkd
        have hc5 : c5 ≤ maxLen := by obtain ⟨_, _, e, -, h⟩ := own_form hown; cases e; exact h
        have v0 : wr.cell? ⟨T, 0, none⟩ = some (.int .i64 (num : Int)) := blk_cell hrL rfl
        have v1 : wr.cell? ⟨T, 1, none⟩ = some (.slice A5 m c5) := blk_cell hrL rfl
        have hnumr : -9223372036854775808 ≤ (num : Int) ∧ (num : Int) ≤ 9223372036854775807 := by omega
        have hTw := HS.out.2.2.2.below hbw
        have hR0 := (Array.getElem?_eq_some_iff.1 r0).1
        have hTr := (Array.getElem?_eq_some_iff.1 hrL).1
        have HZ := Lib.hid (And.intro hsm (And.intro hbw (And.intro r0 (And.intro hrL (And.intro hrn (And.intro hTw (And.intro hc5 (And.intro hml (And.intro hown (And.intro hpo hkd))))))))))
        clear hml hsm hown hpo hkd hbw r0 hrL hrn hTw hc5 hrd
        by_cases hg : GoodP num l
        · have hE := enc_yes hnumr wr HZ.out.2.2.2.2.1 HZ.out.2.2.2.2.2.2.1 HZ.out.2.2.2.2.2.1 hg
          have HE := Lib.hid hE
          have HG := Lib.hid hg
          clear hE hg
          go_wp2_with fail
          refine Calls.mono HE.out ?_
          rintro e w9 ⟨A9, n9, c9, rfl, hn9, hnc9, -, -, hsl9, hb9⟩
          have rr := bBlk hb9 hR0 HZ.out.2.2.1
          have q1 : w9.cell? ⟨p, 1, none⟩ = some (.bool false) := (hb9.cell (p := ⟨p, 1, none⟩) hplt).trans k1
          have hno : ¬ OkD bb := fun h => by
            have h1 := h.2.1
            rw [HD.out.2, hfin.out.2] at h1
            rw [HQ.out.2.2] at h1
            cases h1
          have HNO := Lib.hid hno
          clear hno hn9 hnc9 hsl9
          have z0 : w9.cell? ⟨w.heap.size, 0, none⟩ = some (.int .i64 0) := blk_cell rr rfl
          have z1 : w9.cell? ⟨w.heap.size, 1, none⟩ = some (.slice none 0 0) := blk_cell rr rfl
          have f0 := blk_frozen rr 0
          have f1 := blk_frozen rr 1
          have hbe : Below w.heap.size w w9 := HZ.out.2.1.trans (hb9.mono (by omega))
          have HB := Lib.hid (And.intro hbe rr)
          clear hb9 rr k1 v0 v1 hbe
          go_wp2_with fail
          refine dec_done (R := w.heap.size) (num := 0) (er := 11) rfl rfl (blk_set (blk_set HB.out.2 0 _) 1 _) rfl (DecP.no ?_ HNO.out)
          exact (HB.out.1.setCell (Nat.le_refl _) _).setCell (Nat.le_refl _) _
        · have hE := enc_not hnumr wr HZ.out.2.2.2.2.1 HZ.out.2.2.2.2.2.2.1 HZ.out.2.2.2.2.2.1 hg
          have HE := Lib.hid hE
          have hno : ¬ OkD bb := fun h => hg (by
            have h1 := h.1
            rw [HD.out.1, HD.out.2, hfin.out.1] at h1
            exact h1.same HZ.out.1.symm)
          have HNO := Lib.hid hno
          clear hE hg hno
          go_wp2_with fail
          refine Calls.mono HE.out ?_
          rintro e w9 ⟨A9, n9, c9, rfl, -, -, -, -, -, hb9⟩
          have rr := bBlk hb9 hR0 HZ.out.2.2.1
          have z0 : w9.cell? ⟨w.heap.size, 0, none⟩ = some (.int .i64 0) := blk_cell rr rfl
          have z1 : w9.cell? ⟨w.heap.size, 1, none⟩ = some (.slice none 0 0) := blk_cell rr rfl
          have f0 := blk_frozen rr 0
          have f1 := blk_frozen rr 1
          have hbe : Below w.heap.size w w9 := HZ.out.2.1.trans (hb9.mono (by omega))
          have HB := Lib.hid (And.intro hbe rr)
          clear hb9 rr k1 v0 v1 hbe
          go_wp2_with fail
          refine dec_done (R := w.heap.size) (num := 0) (er := 11) rfl rfl (blk_set (blk_set HB.out.2 0 _) 1 _) rfl (DecP.no ?_ HNO.out)
          exact (HB.out.1.setCell (Nat.le_refl _) _).setCell (Nat.le_refl _) _
      · rw [hok] at k1
        have HQ := Lib.hid (And.intro hls (And.intro hst hok))
        clear hls hst hok
        obtain ⟨l, hml, hsm, hown, hpo, hkd, -, hbw, r0⟩ := e2
        have hTr := (Array.getElem?_eq_some_iff.1 hrL).1
        have c4 : wr.cell? ⟨T, 1, none⟩ = some (.slice A5 m c5) := blk_cell hrL rfl
        let S : World → Prop := fun w' => w'.cell? ⟨T, 1, none⟩ = some (.slice A5 m c5)
        have hSS : ∀ w', But wr.heap.size (· = p) wr w' → S w' := fun w' hb => (World.cell?_of_block (a := ⟨T, 1, none⟩) (hb.block T hTr (by omega))).trans c4
        have hS0 : S wr.drew := hSS _ (But.refl _ _ _).drew
        have hlt5 := fun q hq => (hown.lt q hq).2
        have HZ := Lib.hid (And.intro hml (And.intro hsm (And.intro hown (And.intro hpo (And.intro hkd (And.intro hrd (And.intro hbw (And.intro r0 hrL))))))))
        have HSS := Lib.hid hSS
        clear hml hsm hown hpo hkd hrd hbw r0 hrL hSS c4
        go_upto_region 7 with (fail)
        refine wp_region_E (S := S) 7 (by kernel_rfl) ?_
        change wpAnyE _ _ _ _ S _ _ _ _ wr.drew
        refine wpAnyE_take (i := 0) (oi := ?oi_1) (v := ?v_1) ?ho_1 ?h1_1 ?h2_1 ?h3_1 ?hq_1 (Or.inl ⟨?hw_1, ?hy_1⟩) ?hs_1 ?rest_1; (case h2_1 => kernel_rfl); (case h3_1 => kernel_rfl); (case ho_1 => (simp only [List.getElem?_toArray, List.getElem?_cons_zero, List.getElem?_cons_succ]; rfl)); (case h1_1 => kernel_rfl); (case hq_1 => exact fun _ _ _ h => h); (case hw_1 => rfl); (case hy_1 => (intro w' hSw; (try simp only [S] at hSw); go_simp; (try with_reducible rfl))); (case hs_1 => assumption); (try simp only [Act.put, List.setIfInBounds_toArray, List.set_cons_zero, List.set_cons_succ])
        refine wpAnyE_take (i := 1) (oi := ?oi_2) (v := ?v_2) ?ho_2 ?h1_2 ?h2_2 ?h3_2 ?hq_2 (Or.inl ⟨?hw_2, ?hy_2⟩) ?hs_2 ?rest_2; (case h2_2 => kernel_rfl); (case h3_2 => kernel_rfl); (case ho_2 => (simp only [List.getElem?_toArray, List.getElem?_cons_zero, List.getElem?_cons_succ]; rfl)); (case h1_2 => kernel_rfl); (case hq_2 => exact fun _ _ _ h => h); (case hw_2 => rfl); (case hy_2 => (intro w' hSw; (try simp only [S] at hSw); go_simp; (try with_reducible rfl))); (case hs_2 => assumption); (try simp only [Act.put, List.setIfInBounds_toArray, List.set_cons_zero, List.set_cons_succ])
        refine wpAnyE_take (i := 2) (oi := ?oi_3) (v := ?v_3) ?ho_3 ?h1_3 ?h2_3 ?h3_3 ?hq_3 (Or.inl ⟨?hw_3, ?hy_3⟩) ?hs_3 ?rest_3; (case h2_3 => kernel_rfl); (case h3_3 => kernel_rfl); (case ho_3 => (simp only [List.getElem?_toArray, List.getElem?_cons_zero, List.getElem?_cons_succ]; rfl)); (case h1_3 => kernel_rfl); (case hq_3 => exact fun _ _ _ h => h); (case hw_3 => rfl); (case hy_3 => (intro w' hSw; (try simp only [S] at hSw); go_simp; (try with_reducible rfl))); (case hs_3 => assumption); (try simp only [Act.put, List.setIfInBounds_toArray, List.set_cons_zero, List.set_cons_succ])
        refine wpAnyE_ready (rs := [3]) (by kernel_rfl) (by simp) (AllReadyE.cons (o := ?oo3_5) ?hoo3_5 (fun K hK => ?steponly5) AllReadyE.nil); (case hoo3_5 => (simp only [List.getElem?_toArray, List.getElem?_cons_zero, List.getElem?_cons_succ]; rfl))
        go_simp
        refine Calls.mono (line_any wr.drew (HZ.out.2.2.2.2.2.1.next (Below.refl _ _).drew)) ?_
        rintro e w3 ⟨A3, n3, c3, rfl, hn3, hown3, hrd3, hbt3⟩
        have hb3 : But wr.heap.size (· = p) wr w3 := (But.refl _ _ _).drew.trans hbt3
        have hpc3 := lineD_pc (s := st)
        have hkd3 := lineD_kind (s := st)
        have hmore := rdLs_more HQ.out.1 HQ.out.2.1 HQ.out.2.2
        obtain ⟨⟨⟨x, px⟩, st'⟩, hld⟩ : ∃ q, lineD st = q := ⟨_, rfl⟩
        rw [hld] at hn3 hown3 hrd3 hpc3 hkd3 hmore ⊢
        simp only at hn3 hown3 hrd3 hpc3 hkd3 hmore ⊢
        clear hld
        have hS3 : S w3 := HSS.out _ hb3
        obtain ⟨x', hx'⟩ : ∃ q : LN, ⟨x.kind, x.first, x.last, x.over, .slice A3 n3 c3⟩ = q := ⟨_, rfl⟩
        have hxc : (#[.int .i64 x.kind, .bool x.first, .bool x.last, .bool x.over, .slice A3 n3 c3] : Array Value) = x'.cells.toArray := by rw [← hx']; rfl
        rw [hxc]
        clear hxc
        refine hK.out _ _ (fun _ => hS3) (fun _ => ?_)
        clear hK K
        (try simp only [Act.put, List.setIfInBounds_toArray, List.set_cons_zero, List.set_cons_succ])
        have hs1 := fun W => run_slice1 (P := Tryd.prog) (t := 22) lnZ Tryd.underlying22 (s := 5) rfl (by omega) (by omega) x'.cells rfl W
        have hb4 : But wr.heap.size (· = p) wr (w3.alloc (.cells x'.cells.toArray 45)) := hb3.alloc hb3.size _
        have hS4 := HSS.out _ hb4
        refine wpAnyE_ready (rs := [4]) (by kernel_rfl) (by simp) (AllReadyE.cons (o := ?oo4_6) ?hoo4_6 (fun K hK => ?steponly6) AllReadyE.nil); (case hoo4_6 => (simp only [List.getElem?_toArray, List.getElem?_cons_zero, List.getElem?_cons_succ]; rfl))
        refine step_slice rfl 22 1 #[(0, .tmp 33)] rfl (by simp only [List.map_toArray, List.map_cons, List.map_nil]; exact hs1 w3) ?_
        refine hK.out _ _ (fun _ => hS4) (fun _ => ?_)
        clear hK K
        (try simp only [Act.put, List.setIfInBounds_toArray, List.set_cons_zero, List.set_cons_succ])
        clear hs1 hS3
        have hpT := HP.out
        have hown17 := own_but (HZ.out.2.2.1) hb3 (by omega)
        have hpo17 := HZ.out.2.2.2.1.but hb3 (by omega)
        have hz3 := hb3.size
        have hm5 : m ≤ 255 := by omega
        have hl3 := hown3.lt
        have hpo18 : PcOwn w3 (T + 1) (Value.slice A5 m c5).ownBlock (l ++ [(x', px)]) := hpo17.snoc (r := (x', px)) (A := A3) (n := n3) (c := c3) (by rw [← hx']) hn3 (own_base hown3 (by simp; omega)) hpc3 (fun b hb e => by
          have h1 := (hl3 b hb).1
          have h2 := hlt5 b e
          simp at h1
          omega)
        have hbA : Below w3.heap.size w3 (w3.alloc (.cells x'.cells.toArray 45)) := (Below.refl _ _).alloc (Nat.le_refl _) _
        have hx58 : Sl (w3.alloc (.cells x'.cells.toArray 45)) (w3.alloc (.cells x'.cells.toArray 45)).heap.size 5 (some ⟨w3.heap.size, 0, none⟩) 1 x'.cells :=
          Sl.new (sz := 5) (n := 1) (heap_alloc_new w3 _) rfl
        have hone' : x'.One := by unfold LN.One; rw [← hx']; rfl
        have hone : ∀ u ∈ x'.cells, u.oneCell' = true := fun u hu => by
          have := one_lns (l := [x']) (fun y hy => by rw [List.mem_singleton.1 hy]; exact hone') u
          exact this (by simpa [lns] using hu)
        have hown20 := hown17.alloc (.cells x'.cells.toArray 45)
        have hb20s : T + 1 ≤ (w3.alloc (.cells x'.cells.toArray 45)).heap.size := by simp; omega
        refine wpAnyE_ready (rs := [5]) (by kernel_rfl) (by simp) (AllReadyE.cons (o := ?oo5_7) ?hoo5_7 (fun K hK => ?steponly7) AllReadyE.nil); (case hoo5_7 => (simp only [List.getElem?_toArray, List.getElem?_cons_zero, List.getElem?_cons_succ]; rfl))
        refine step_app _ rfl (.tmp 31) (.tmp 34) 22 rfl (base := T + 1) Tryd.underlying22 elemLn rfl hown20 rfl hx58 hone (by simp only [maxLen]; omega) (by omega) hb20s ?_
        intro A21 c21 w21 hown21 hg21 hb21 hat21
        have hB21 : Below (T + 1) w3 w21 := (hbA.mono (by omega)).trans hb21
        have hne21 : ∀ q, (Value.slice A5 m c5).ownBlock = some q → T + 1 ≤ q := fun q hq => (hown17.lt q hq).1
        have hbL : w21.heap[T]? = (w3.alloc (.cells x'.cells.toArray 45)).heap[T]? := hg21.block T (by have := hbA.size; omega) (fun e => by
          have h1 := hne21 T e.symm
          omega)
        have hpo21 := (hpo18.nxt hbA).grown hg21 hat21
        have hS21 : S w21 := (World.cell?_of_block (a := ⟨T, 1, none⟩) hbL).trans hS4
        refine hK.out _ _ (fun _ => hS21) (fun _ => ?_)
        clear hK K
        (try simp only [Act.put, List.setIfInBounds_toArray, List.set_cons_zero, List.set_cons_succ])
        have rL21 : w21.heap[T]? = some (.cells #[.int .i64 (num : Int), .slice A5 m c5] 24) := (hB21.block T (by omega)).trans (hb3.blk hTr (by omega) HZ.out.2.2.2.2.2.2.2.2)
        have d4 : w21.cell? ⟨T, 1, none⟩ = some (.slice A5 m c5) := blk_cell rL21 rfl
        have e4 := blk_frozen rL21 1
        refine wpAnyE_take (i := 6) (oi := ?oi_4) (v := ?v_4) ?ho_4 ?h1_4 ?h2_4 ?h3_4 ?hq_4 (Or.inl ⟨?hw_4, ?hy_4⟩) ?hs_4 ?rest_4; (case h2_4 => kernel_rfl); (case h3_4 => kernel_rfl); (case ho_4 => (simp only [List.getElem?_toArray, List.getElem?_cons_zero, List.getElem?_cons_succ]; rfl)); (case h1_4 => kernel_rfl); (case hq_4 => exact fun _ _ _ h => h); (case hw_4 => rfl); (case hy_4 => (intro w' hSw; (try simp only [S] at hSw); go_simp; (try with_reducible rfl))); (case hs_4 => assumption); (try simp only [Act.put, List.setIfInBounds_toArray, List.set_cons_zero, List.set_cons_succ])
        refine wpAnyE_ready (rs := [7]) (by kernel_rfl) (by simp) (AllReadyE.cons (o := ?oo7_8) ?hoo7_8 (fun K hK => ?steponly8) AllReadyE.nil); (case hoo7_8 => (simp only [List.getElem?_toArray, List.getElem?_cons_zero, List.getElem?_cons_succ]; rfl))
        go_simp
        refine hK.out _ _ (fun h => absurd rfl h) (fun _ => ?_)
        clear hK K
        (try simp only [Act.put, List.setIfInBounds_toArray, List.set_cons_zero, List.set_cons_succ])
        refine wpAnyE_done (by kernel_rfl) ?_ _
        obtain ⟨hml, hsm, -, -, hkd, -, hbw, r0, -⟩ := HZ.out
        have hBV : Below T w3 (w21.setCell ⟨T, 1, none⟩ (.slice A21 (m + 1) c21)) := (hB21.mono (Nat.le_succ T)).setCell (Nat.le_refl _) _
        have hrV : (w21.setCell ⟨T, 1, none⟩ (.slice A21 (m + 1) c21)).heap[T]? = some (.cells #[.int .i64 (num : Int), .slice A21 (m + 1) c21] 24) := blk_set rL21 1 _
        have hoV : (w21.setCell ⟨T, 1, none⟩ (.slice A21 (m + 1) c21)).ownsRow (T + 1) 45 5 (.slice A21 (m + 1) c21) (m + 1) (lns (lnsOf l) ++ x'.cells) := ownsRow_setCell_below hown21 (a := ⟨T, 1, none⟩) (by show T < T + 1; omega) _
        have hpoV := hpo21.set (a := ⟨T, 1, none⟩) (by show T < T + 1; omega) (.slice A21 (m + 1) c21)
        have hrdV := hrd3.but (but_of (X := fun _ => False) hBV) (by omega) (fun k h => h.elim)
        have hbV : Below w.heap.size w (w21.setCell ⟨T, 1, none⟩ (.slice A21 (m + 1) c21)) := (hbw.trans (hb3.below hbw.size (fun k hk => by omega))).trans (hBV.mono (by omega))
        have hr0V : (w21.setCell ⟨T, 1, none⟩ (.slice A21 (m + 1) c21)).heap[w.heap.size]? = some (.cells #[.int .i64 0, .slice none 0 0] 24) := (hBV.block w.heap.size (by omega)).trans (hb3.blk (Array.getElem?_eq_some_iff.1 r0).1 (by omega) r0)
        have hsmV : RSame (l ++ [(x', px)]) (ls ++ [(x, px)]) := hsm.snoc ⟨by rw [← hx'], by rw [← hx'], by rw [← hx'], by rw [← hx'], rfl⟩
        have hkdV : ∀ r ∈ l ++ [(x', px)], 0 ≤ r.1.kind ∧ r.1.kind ≤ 3 := fun r hr => by
          rcases List.mem_append.1 hr with hr | hr
          · exact hkd r hr
          · rw [List.mem_singleton.1 hr, ← hx']; exact hkd3
        have HV := Lib.hid (And.intro hrV (And.intro hoV (And.intro hrdV (And.intro hbV (And.intro hr0V (And.intro hmore (And.intro hml (And.intro hpoV (And.intro hsmV hkdV)))))))))
        clear hml hsm hkd hbw r0 hmore hBV hrV hoV hpoV hrdV hbV hr0V hsmV hkdV d4 e4 rL21 hS21 hS4 hbL hB21 hbA hne21 hown21 hg21 hb21 hat21 hown17 hown20 hx58 hone hone' hb4 hb20s hS0 hpo17 hpo18 hpo21 hown3 hrd3 hbt3 hb3 hl3 hpc3 hkd3 hx'
        go_wp2_with fail
        go_roundw
        case rel =>
          obtain ⟨hrV, hoV, hrdV, hbV, hr0V, e3, hml, hpoV, hsmV, hkdV⟩ := HV.out
          refine ⟨j + 1, m + 1, A21, c21, by omega, by omega, by go_num, hrV, Lib.hid ⟨l ++ [(x', px)], by rw [List.length_append, ← hml]; rfl, by rw [e3]; exact hsmV, ?_, hpoV, hkdV, by rw [e3]; exact hrdV, hbV, hr0V⟩⟩
          have e5 : lns (lnsOf (l ++ [(x', px)])) = lns (lnsOf l) ++ x'.cells := by
            unfold lnsOf; rw [List.map_append, lns_append]; simp [lns]
          rw [e5]
          exact hoV
        case measure => simp [intOf]; omega
    · have hjn : j = n1 := by omega
      have e2 := HI.out
      rw [hjn] at e2
      have hrd : RdAt wr p (rdLs n1 ([], S1)).2 := by obtain ⟨_, -, -, -, -, -, h, -⟩ := e2; exact h
      obtain ⟨Ar, nr, cr, t1, -⟩ := hrd.at_
      have k1 : wr.cell? ⟨p, 1, none⟩ = some (.bool (rdLs n1 ([], S1)).2.ok) := blk_cell t1 rfl
      clear t1
      have hplt := hrd.lt
      clear HI
      obtain ⟨l, hml, hsm, hown, hpo, hkd, hrd, hbw, r0⟩ := e2
      have hrn := hpo.rn hown hml.symm hkd
      have hc5 : c5 ≤ maxLen := by obtain ⟨_, _, e, -, h⟩ := own_form hown; cases e; exact h
      have v0 : wr.cell? ⟨T, 0, none⟩ = some (.int .i64 (num : Int)) := blk_cell hrL rfl
      have v1 : wr.cell? ⟨T, 1, none⟩ = some (.slice A5 m c5) := blk_cell hrL rfl
      have hnumr : -9223372036854775808 ≤ (num : Int) ∧ (num : Int) ≤ 9223372036854775807 := by omega
      have hTw := HS.out.2.2.2.below hbw
      have hR0 := (Array.getElem?_eq_some_iff.1 r0).1
      have hTr := (Array.getElem?_eq_some_iff.1 hrL).1
      have HZ := Lib.hid (And.intro hsm (And.intro hbw (And.intro r0 (And.intro hrL (And.intro hrn (And.intro hTw (And.intro hc5 (And.intro hml (And.intro hown (And.intro hpo hkd))))))))))
      clear hml hsm hown hpo hkd hbw r0 hrL hrn hTw hc5 hrd
      by_cases hg : GoodP num l
      · have hE := enc_yes hnumr wr HZ.out.2.2.2.2.1 HZ.out.2.2.2.2.2.2.1 HZ.out.2.2.2.2.2.1 hg
        have HE := Lib.hid hE
        have HG := Lib.hid hg
        clear hE hg
        go_wp2_with fail
        refine Calls.mono HE.out ?_
        rintro e w9 ⟨A9, n9, c9, rfl, hn9, hnc9, -, -, hsl9, hb9⟩
        have rr := bBlk hb9 hR0 HZ.out.2.2.1
        cases hok : (rdLs n1 ([], S1)).2.ok
        · rw [hok] at k1
          have HOK2 := Lib.hid hok
          clear hok
          have q1 : w9.cell? ⟨p, 1, none⟩ = some (.bool false) := (hb9.cell (p := ⟨p, 1, none⟩) hplt).trans k1
          have hno : ¬ OkD bb := fun h => by
            have h1 := h.2.1
            rw [HD.out.2] at h1
            rw [HOK2.out] at h1
            cases h1
          have HNO := Lib.hid hno
          clear hno hn9 hnc9 hsl9
          have z0 : w9.cell? ⟨w.heap.size, 0, none⟩ = some (.int .i64 0) := blk_cell rr rfl
          have z1 : w9.cell? ⟨w.heap.size, 1, none⟩ = some (.slice none 0 0) := blk_cell rr rfl
          have f0 := blk_frozen rr 0
          have f1 := blk_frozen rr 1
          have hbe : Below w.heap.size w w9 := HZ.out.2.1.trans (hb9.mono (by omega))
          have HB := Lib.hid (And.intro hbe rr)
          clear hb9 rr k1 v0 v1 hbe
          go_wp2_with fail
          refine dec_done (R := w.heap.size) (num := 0) (er := 11) rfl rfl (blk_set (blk_set HB.out.2 0 _) 1 _) rfl (DecP.no ?_ HNO.out)
          exact (HB.out.1.setCell (Nat.le_refl _) _).setCell (Nat.le_refl _) _
        · rw [hok] at k1
          have HOK2 := Lib.hid hok
          clear hok
          have q1 : w9.cell? ⟨p, 1, none⟩ = some (.bool true) := (hb9.cell (p := ⟨p, 1, none⟩) hplt).trans k1
          have hwr := HZ.out.2.1.size
          have hw9 := hb9.size
          have heq := equal_any (xs := encB num l) (ys := bb) (BA := w9.heap.size) (BB := w.heap.size) w9 hsl9 (HS.out.1.below (HZ.out.2.1.trans (hb9.mono hwr))) (by have := HG.out.2; omega) (Nat.le_refl _) (by omega) hnc9 hc
          have HEQ := Lib.hid heq
          have HB9 := Lib.hid (And.intro hb9 rr)
          clear heq hsl9 hn9 hnc9
          by_cases hbq : encB num l = bb
          · have hdq : decide (encB num l = bb) = true := decide_eq_true hbq
            have HOK := Lib.hid hbq
            rw [hdq] at HEQ
            clear hbq hdq hb9 rr k1
            go_wp2_with fail
            refine Calls.mono HEQ.out ?_
            rintro e wx ⟨rfl, hbx⟩
            have hb9x : Below wr.heap.size wr wx := bNext HB9.out.1 hbx
            have rr := bBlk hb9x hR0 HZ.out.2.2.1
            have z0 : wx.cell? ⟨w.heap.size, 0, none⟩ = some (.int .i64 0) := blk_cell rr rfl
            have z1 : wx.cell? ⟨w.heap.size, 1, none⟩ = some (.slice none 0 0) := blk_cell rr rfl
            have y0 : wx.cell? ⟨T, 0, none⟩ = some (.int .i64 (num : Int)) := (hb9x.cell (p := ⟨T, 0, none⟩) hTr).trans v0
            have y1 : wx.cell? ⟨T, 1, none⟩ = some (.slice A5 m c5) := (hb9x.cell (p := ⟨T, 1, none⟩) hTr).trans v1
            have f0 := blk_frozen rr 0
            have f1 := blk_frozen rr 1
            have hbe : Below w.heap.size w wx := HZ.out.2.1.trans (hb9x.mono (by omega))
            have HB := Lib.hid (And.intro hbe (And.intro rr hb9x))
            clear hbx hb9x hbe rr v0 v1 q1
            go_wp2_with fail
            refine dec_done (R := w.heap.size) (num := num) (er := 0) rfl rfl (blk_set (blk_set HB.out.2.1 0 _) 1 _) rfl ?_
            obtain ⟨hsm, -, -, -, -, -, hc5, hml, hown, hpo, hkd⟩ := HZ.out
            have hlt : w.heap.size < T + 1 := by omega
            refine ⟨num, A5, m, c5, l, 0, rfl, (HB.out.1.setCell (Nat.le_refl _) _).setCell (Nat.le_refl _) _, ?_, hc5, by omega, by omega, .inl ⟨rfl, ?_, HD.out.1.symm, ?_⟩⟩
            · exact (((hpo.nxt HB.out.2.2).set (a := ⟨w.heap.size, 0, none⟩) hlt _).set (a := ⟨w.heap.size, 1, none⟩) hlt _).rn (ownsRow_setCell_below (ownsRow_setCell_below (own_below hown HB.out.2.2) (a := ⟨w.heap.size, 0, none⟩) hlt _) (a := ⟨w.heap.size, 1, none⟩) hlt _) hml.symm hkd
            · refine ⟨?_, ?_, ?_⟩
              · rw [HD.out.1, HD.out.2]; exact HG.out.same hsm
              · rw [HD.out.2]; exact HOK2.out
              · rw [HD.out.1, HD.out.2, ← encB_same hsm]; exact HOK.out
            · rw [HD.out.2]; exact hsm
          · have hdq : decide (encB num l = bb) = false := decide_eq_false hbq
            have hno : ¬ OkD bb := fun h => hbq (by
              have h1 := h.2.2
              rw [HD.out.1, HD.out.2, ← encB_same HZ.out.1] at h1
              exact h1)
            have HNO := Lib.hid hno
            rw [hdq] at HEQ
            clear hbq hdq hb9 rr k1 hno
            go_wp2_with fail
            refine Calls.mono HEQ.out ?_
            rintro e wx ⟨rfl, hbx⟩
            have hb9 : Below wr.heap.size wr wx := bNext HB9.out.1 hbx
            have rr := bBlk hb9 hR0 HZ.out.2.2.1
            have k1 : True := trivial
            clear hbx q1
            have z0 : wx.cell? ⟨w.heap.size, 0, none⟩ = some (.int .i64 0) := blk_cell rr rfl
            have z1 : wx.cell? ⟨w.heap.size, 1, none⟩ = some (.slice none 0 0) := blk_cell rr rfl
            have f0 := blk_frozen rr 0
            have f1 := blk_frozen rr 1
            have hbe : Below w.heap.size w wx := HZ.out.2.1.trans (hb9.mono (by omega))
            have HB := Lib.hid (And.intro hbe rr)
            clear hb9 rr k1 v0 v1 hbe
            go_wp2_with fail
            refine dec_done (R := w.heap.size) (num := 0) (er := 11) rfl rfl (blk_set (blk_set HB.out.2 0 _) 1 _) rfl (DecP.no ?_ HNO.out)
            exact (HB.out.1.setCell (Nat.le_refl _) _).setCell (Nat.le_refl _) _
      · have hE := enc_not hnumr wr HZ.out.2.2.2.2.1 HZ.out.2.2.2.2.2.2.1 HZ.out.2.2.2.2.2.1 hg
        have HE := Lib.hid hE
        have hno : ¬ OkD bb := fun h => hg (by
          have h1 := h.1
          rw [HD.out.1, HD.out.2] at h1
          exact h1.same HZ.out.1.symm)
        have HNO := Lib.hid hno
        clear hE hg hno
        go_wp2_with fail
        refine Calls.mono HE.out ?_
        rintro e w9 ⟨A9, n9, c9, rfl, -, -, -, -, -, hb9⟩
        have rr := bBlk hb9 hR0 HZ.out.2.2.1
        have z0 : w9.cell? ⟨w.heap.size, 0, none⟩ = some (.int .i64 0) := blk_cell rr rfl
        have z1 : w9.cell? ⟨w.heap.size, 1, none⟩ = some (.slice none 0 0) := blk_cell rr rfl
        have f0 := blk_frozen rr 0
        have f1 := blk_frozen rr 1
        have hbe : Below w.heap.size w w9 := HZ.out.2.1.trans (hb9.mono (by omega))
        have HB := Lib.hid (And.intro hbe rr)
        clear hb9 rr k1 v0 v1 hbe
        go_wp2_with fail
        refine dec_done (R := w.heap.size) (num := 0) (er := 11) rfl rfl (blk_set (blk_set HB.out.2 0 _) 1 _) rfl (DecP.no ?_ HNO.out)
        exact (HB.out.1.setCell (Nat.le_refl _) _).setCell (Nat.le_refl _) _
end Go.Proofs.YtiffcdeagckgmaaDoor
