/- The walk over DiskPlays: the disk and its reference, step by step. (s3/plays.py writes it.) -/
import Derived.Test.YthbaogjamenndaaDskLaws2
import Derived.Test.YthbaogjamenndaaDskRRead
import Derived.Test.YthbaogjamenndaaDskRCrash
namespace Go.Proofs.Ythbaogjamenndaa
set_option linter.unusedSimpArgs false
set_option linter.unusedVariables false
open Go.RowKit Go.ChangeShapes Go.WideShapes Go.Sort

theorem RDk.base {w : World} {b b' p B : Nat} {v : Value} {s : DS} {F : Int} (h : RDk w b p B v s F) (hb : b' ≤ b) : RDk w b' p B v s F :=
  ⟨h.hd, h.bl, own_base h.lo hb, h.pB, Nat.le_trans hb h.bp, Nat.le_trans hb h.bB, h.vp, h.vB, h.ok, h.hF, h.f63⟩
/-- the disk and its reference, apart -/
structure Two (w : World) (b p B pq Bq : Nat) (v vq : Value) (s : DS) (F : Int) : Prop where
  d : Dk w b p B v s
  q : RDk w b pq Bq vq s F
  dis : ∀ k, Own p B v k → ¬ Own pq Bq vq k
theorem Two.below {w w' : World} {b p B pq Bq : Nat} {v vq : Value} {s : DS} {F : Int} (h : Two w b p B pq Bq v vq s F) (hb : Below w.heap.size w w') : Two w' b p B pq Bq v vq s F := ⟨h.d.below hb, h.q.below hb, h.dis⟩
theorem own_step {p B pq Bq : Nat} {v v' vq : Value} {w w' : World} (hs : DStep p B v v' w w') (dis : ∀ k, Own p B v k → ¬ Own pq Bq vq k) (hlt : ∀ k, Own pq Bq vq k → k < w.heap.size) : ∀ k, Own p B v' k → ¬ Own pq Bq vq k := fun k hk hq => by
  rcases hk with e | e | e
  · exact dis k (.inl e) hq
  · exact dis k (.inr (.inl e)) hq
  · rcases hs.own k e with e | e
    · exact dis k (.inr (.inr e)) hq
    · have := hlt k hq; omega
/-- the disk takes a step -/
theorem Two.stepD {w w' : World} {b p B pq Bq : Nat} {v v' vq : Value} {s : DS} {F : Int} (h : Two w b p B pq Bq v vq s F) (hs : DStep p B v v' w w') : RDk w' b pq Bq vq s F ∧ (∀ k, Own p B v' k → ¬ Own pq Bq vq k) :=
  ⟨h.q.kept hs.but (Nat.le_refl _) h.dis, own_step hs h.dis (fun k hk => (h.q.own_ge k hk).2)⟩
/-- then the reference -/
theorem Two.stepQ {w w' : World} {b p B pq Bq : Nat} {v vq vq' : Value} {s s' : DS} {F F' : Int} (hd : Dk w b p B v s') (dis : ∀ k, Own p B v k → ¬ Own pq Bq vq k) (hq : RDk w' b pq Bq vq' s' F') (hs : DStep pq Bq vq vq' w w') : Two w' b p B pq Bq v vq' s' F' :=
  ⟨hd.kept hs.but (Nat.le_refl _) (fun k hk hk' => dis k hk' hk), hq, fun k hk hk' => own_step hs (fun k h1 h2 => dis k h2 h1) (fun k hk => (hd.own_ge k hk).2) k hk' hk⟩
theorem RDk.fuse {w : World} {b p B : Nat} {v : Value} {s : DS} {F : Int} (h : RDk w b p B v s F) {n : Int} (h1 : -9223372036854775808 ≤ n) (h2 : n ≤ 9223372036854775807) : RDk (w.setCell ⟨p, 2, none⟩ (.int .i64 n)) b p B v (s.fuseTo n) n ∧ DStep p B v v w (w.setCell ⟨p, 2, none⟩ (.int .i64 n)) := by
  have hb : But w.heap.size (· = p) w (w.setCell ⟨p, 2, none⟩ (.int .i64 n)) := (But.refl _ _ _).setp 2 _
  exact ⟨h.head hb (Nat.le_refl _) (blk_set h.hd 2 _) rfl rfl (h.ok.fuseTo h2) rfl ⟨h1, h2⟩, DStep.of_but hb⟩
theorem RStep.below {w w' : World} {b p B : Nat} {v v' : Value} {s : DS} {F : Int} (h : RDk w b p B v s F) (st : DStep p B v v' w w') : Below b w w' :=
  (st.but.less (Nat.le_of_lt (Nat.lt_of_le_of_lt h.bp h.lt.1))).below (Nat.le_refl _) (fun k hk => (h.own_ge k hk).1)
theorem wr_le (s : DS) (i : Int) (b : Blk) : (s.write i b).done ≤ s.done + 1 ∧ (s.write i b).lo.length ≤ s.lo.length + 1 := by
  have := write_cnt s i b
  by_cases h : s.writeE i = 0
  · have := this.1 h; omega
  · have := this.2 h; omega
theorem sy_le (s : DS) : s.sync.done ≤ s.done + 1 ∧ s.sync.lo.length ≤ s.lo.length + 1 := by
  have := sync_cnt s
  by_cases h : s.passE = 0
  · have := this.1 h; omega
  · have := this.2 h; omega

attribute [-go_sem] Builtin.append_
set_option maxHeartbeats 16000000 in
set_option maxRecDepth 100000 in
theorem diskPlays_core (n : Int) {w : World} {A : Option Addr} {c : Nat} {l : List Stp} (hs : Sl w w.heap.size 4 A l.length (encS l)) (hc : l.length ≤ c) (hm : c ≤ maxLen) (hok : ∀ x ∈ l, x.Ok w) :
    Calls Try.prog 7 #[.int .i64 n, .slice A l.length c] w (Ret w (.bool true)) := by
  have hm2 : l.length ≤ 9223372036854775807 := by simp only [maxLen] at hm; omega
  have hfair := fair_any (w := w) hs hc hm
  obtain ⟨t, ht⟩ : ∃ t, fairL l = t := ⟨_, rfl⟩
  rw [ht] at hfair
  go_enter Try.func7, Try.ntmps7
  go_wp2_with fail
  refine hfair.mono ?_
  rintro e _ ⟨rfl, rfl⟩
  clear hfair
  cases t
  · go_wp2_with fail
    refine (wakes01_any _).mono ?_
    rintro e W2 ⟨rfl, hb2⟩
    go_wp2
    go_ret
    exact Ret.mk rfl hb2
  have h200 : l.length ≤ 200 ∧ ∀ x ∈ l, x.keep.length ≤ 300 := by
    unfold fairL at ht
    simp at ht
    exact ⟨ht.2, ht.1⟩
  obtain ⟨hl2, hkp⟩ := h200
  clear ht
  by_cases hn : n < 16 ∨ 128 < n
  · go_wp2_with fail
    refine (new_arg n hn _).mono ?_
    rintro e _ ⟨rfl, rfl⟩
    go_wp2_with fail
    refine (rnew_arg n hn _).mono ?_
    rintro e _ ⟨rfl, rfl⟩
    clear hn hok hkp hs
    go_wp2_with fail
    go_loopw [9] (fun i wr => i = .int .i64 0 ∧ wr = w) (fun _ _ => 0)
    case atStart => exact ⟨rfl, rfl⟩
    case round =>
      obtain ⟨rfl, rfl⟩ := hrel
      by_cases g1 : (0 : Int) < l.length
      · go_wp2_with fail
        refine (wakes01_any _).mono ?_
        rintro e W2 ⟨rfl, hb2⟩
        go_wp2
        go_ret
        exact Ret.mk rfl hb2
      · go_wp2_with fail
        refine (wakes01_any _).mono ?_
        rintro e W2 ⟨rfl, hb2⟩
        go_wp2
        go_ret
        exact Ret.mk rfl hb2
  obtain ⟨m, rfl⟩ : ∃ m : Nat, n = (m : Int) := ⟨n.toNat, by omega⟩
  have hm16 : 16 ≤ m := by omega
  have hm128 : m ≤ 128 := by omega
  go_wp2_with fail
  refine (new_any m hm16 hm128 _).mono ?_
  rintro e W1 ⟨rfl, hk1, hb1⟩
  unfold dp
  go_wp2_with fail
  refine (rnew_any m hm16 hm128 _).mono ?_
  rintro e W2 ⟨rfl, hq2, hb2⟩
  unfold dp
  have hz1 := hb1.size
  have hd2 := hk1.below hb2
  have hB2 := hb1.trans (hb2.mono hz1)
  have hTwo : Two W2 w.heap.size (w.heap.size + 1) w.heap.size (W1.heap.size + 1) W1.heap.size (.slice none 0 0) (.slice none 0 0) (DS.new m) (-1) := ⟨hd2, hq2.base hz1, fun k hk hk' => by
    have h1 := hk1.lt
    rcases hk with e | e | e
    · rcases hk' with e' | e' | e'
      · omega
      · omega
      · simp [Value.ownBlock] at e'
    · rcases hk' with e' | e' | e'
      · omega
      · omega
      · simp [Value.ownBlock] at e'
    · simp [Value.ownBlock] at e⟩
  obtain ⟨pq, hpq⟩ : ∃ g, W1.heap.size + 1 = g := ⟨_, rfl⟩
  obtain ⟨Bq, hBq⟩ : ∃ g, W1.heap.size = g := ⟨_, rfl⟩
  rw [hpq, hBq] at hTwo
  rw [hpq]
  clear hpq hBq hk1 hq2 hd2 hb1 hb2 hz1 hn hm16 hm128
  go_wp2_with fail
  go_loopw [9] (fun i wr => ∃ (k : Nat) (s : DS) (v vq : Value) (F : Int), i = .int .i64 k ∧ k ≤ l.length ∧ s.done ≤ k ∧ s.lo.length ≤ k ∧ Two wr w.heap.size (w.heap.size + 1) w.heap.size pq Bq v vq s F ∧ Below w.heap.size w wr) (fun i _ => l.length - (intOf i).toNat)
  case atStart => exact ⟨0, DS.new m, _, _, _, rfl, by omega, Nat.le_refl _, Nat.le_refl _, hTwo, hB2⟩
  case round =>
    clear hTwo hB2
    obtain ⟨k, s, v, vq, F, rfl, hk, hdk, hlk, hTwo, hB⟩ := hrel
    by_cases hlt : k < l.length
    · obtain ⟨x, hx⟩ : ∃ x, l[k]? = some x := ⟨_, List.getElem?_eq_getElem hlt⟩
      have hxm := List.mem_of_getElem? hx
      obtain ⟨b, o, rfl, hb, q0, q1, q2, q3⟩ := step_at (hs.below hB) hx
      have hxk := hkp x hxm
      obtain ⟨hxi, hxs, hxc, hxcm⟩ := hok x hxm
      have g1 : (k : Int) < l.length := by omega
      have hzr := hB.size
      unfold bv at q2
      clear hx hxm
      go_upto_region 11 with (fail)
      generalize hY : World.alloc _ _ = Y
      have hYx : StpAt Y wr.heap.size x := by rw [← hY]; exact .of (heap_alloc_new _ _)
      have hbY : Below wr.heap.size wr Y := by rw [← hY]; exact (Below.refl _ _).alloc (Nat.le_refl _) _
      have hGd : ∀ j, Own (w.heap.size + 1) w.heap.size v j → j < wr.heap.size := fun j hj => (hTwo.d.own_ge j hj).2
      have hGq : ∀ j, Own pq Bq vq j → j < wr.heap.size := fun j hj => (hTwo.q.own_ge j hj).2
      replace hTwo := hTwo.below hbY
      have hBY := hB.trans (hbY.mono hzr)
      have hGY : wr.heap.size < Y.heap.size := (Array.getElem?_eq_some_iff.1 hYx.blk).1
      have hxsY := hxs.below (B := w.heap.size) hBY
      clear hY q0 q1 q2 q3 hB hbY
      obtain ⟨yb, y0, y1, y2, y3⟩ := hYx
      by_cases k0 : x.kind = 0
      · -- Write
        rw [k0] at y0
        have hwl := wr_le s x.i (fillB x.v)
        let S : World → Prop := fun w' => w'.cell? ⟨wr.heap.size, 1, none⟩ = some (.int .i64 x.i) ∧ w'.cell? ⟨wr.heap.size, 2, none⟩ = some (.int .u8 (x.v.toNat : Int))
        have hS : ∀ w', w'.heap[wr.heap.size]? = Y.heap[wr.heap.size]? → S w' := fun w' h => ⟨(World.cell?_of_block (a := ⟨wr.heap.size, 1, none⟩) h).trans y1, (World.cell?_of_block (a := ⟨wr.heap.size, 2, none⟩) h).trans y2⟩
        have HS := Lib.hid hS
        have hS0 : S Y.drew := hS _ rfl
        have hfl : ∀ W, Calls Try.prog 30 #[.int .u8 (x.v.toNat : Int)] W (Ret W (.agg (bvs (fillB x.v)).toArray)) := fun W => fill_any x.v W
        have hTd := hTwo.below (w' := Y.drew) ((Below.refl _ _).drew)
        have hwr := fun W (h : Dk W w.heap.size (w.heap.size + 1) w.heap.size v s) => write_any h (by omega) (by omega) x.i (fillB_len x.v)
        have hwq := fun W (h : RDk W w.heap.size pq Bq vq s F) => rwrite_any h (by omega) (by omega) x.i (fillB_len x.v)
        unfold bkv dp at hwr hwq
        clear hS y3 yb hxs hxsY
        go_upto_region 13 with (fail)
        refine wp_region_held (S := S) (by kernel_rfl) ?_
        change wpAnyH _ _ _ _ S _ _ _ Y.drew
        refine wpAnyH_take (i := 0) (oi := ?oi_1) (v := ?v_1) ?ho_1 ?h1_1 ?h2_1 ?h3_1 ?hq_1 (Or.inl ⟨?hw_1, ?hy_1⟩) ?hs_1 ?rest_1; (case h2_1 => kernel_rfl); (case h3_1 => kernel_rfl); (case ho_1 => (simp only [List.getElem?_toArray, List.getElem?_cons_zero, List.getElem?_cons_succ]; rfl)); (case h1_1 => kernel_rfl); (case hq_1 => exact fun _ _ _ h => h); (case hw_1 => rfl); (case hy_1 => (intro w' hSw; (try simp only [S] at hSw); go_simp; (try with_reducible rfl))); (case hs_1 => assumption); (try simp only [Act.put, List.setIfInBounds_toArray, List.set_cons_zero, List.set_cons_succ])
        refine wpAnyH_take (i := 1) (oi := ?oi_2) (v := ?v_2) ?ho_2 ?h1_2 ?h2_2 ?h3_2 ?hq_2 (Or.inl ⟨?hw_2, ?hy_2⟩) ?hs_2 ?rest_2; (case h2_2 => kernel_rfl); (case h3_2 => kernel_rfl); (case ho_2 => (simp only [List.getElem?_toArray, List.getElem?_cons_zero, List.getElem?_cons_succ]; rfl)); (case h1_2 => kernel_rfl); (case hq_2 => exact fun _ _ _ h => h); (case hw_2 => rfl); (case hy_2 => (intro w' hSw; (try simp only [S] at hSw); go_simp; (try with_reducible rfl))); (case hs_2 => assumption); (try simp only [Act.put, List.setIfInBounds_toArray, List.set_cons_zero, List.set_cons_succ])
        refine wpAnyH_take (i := 2) (oi := ?oi_3) (v := ?v_3) ?ho_3 ?h1_3 ?h2_3 ?h3_3 ?hq_3 (Or.inl ⟨?hw_3, ?hy_3⟩) ?hs_3 ?rest_3; (case h2_3 => kernel_rfl); (case h3_3 => kernel_rfl); (case ho_3 => (simp only [List.getElem?_toArray, List.getElem?_cons_zero, List.getElem?_cons_succ]; rfl)); (case h1_3 => kernel_rfl); (case hq_3 => exact fun _ _ _ h => h); (case hw_3 => rfl); (case hy_3 => (intro w' hSw; (try simp only [S] at hSw); go_simp; (try with_reducible rfl))); (case hs_3 => assumption); (try simp only [Act.put, List.setIfInBounds_toArray, List.set_cons_zero, List.set_cons_succ])
        refine wpAnyH_take (i := 3) (oi := ?oi_4) (v := ?v_4) ?ho_4 ?h1_4 ?h2_4 ?h3_4 ?hq_4 (Or.inl ⟨?hw_4, ?hy_4⟩) ?hs_4 ?rest_4; (case h2_4 => kernel_rfl); (case h3_4 => kernel_rfl); (case ho_4 => (simp only [List.getElem?_toArray, List.getElem?_cons_zero, List.getElem?_cons_succ]; rfl)); (case h1_4 => kernel_rfl); (case hq_4 => exact fun _ _ _ h => h); (case hw_4 => rfl); (case hy_4 => (intro w' hSw; (try simp only [S] at hSw); go_simp; (try with_reducible rfl))); (case hs_4 => assumption); (try simp only [Act.put, List.setIfInBounds_toArray, List.set_cons_zero, List.set_cons_succ])
        refine wpAnyH_take (i := 4) (oi := ?oi_5) (v := ?v_5) ?ho_5 ?h1_5 ?h2_5 ?h3_5 ?hq_5 (Or.inl ⟨?hw_5, ?hy_5⟩) ?hs_5 ?rest_5; (case h2_5 => kernel_rfl); (case h3_5 => kernel_rfl); (case ho_5 => (simp only [List.getElem?_toArray, List.getElem?_cons_zero, List.getElem?_cons_succ]; rfl)); (case h1_5 => kernel_rfl); (case hq_5 => exact fun _ _ _ h => h); (case hw_5 => rfl); (case hy_5 => (intro w' hSw; (try simp only [S] at hSw); go_simp; (try with_reducible rfl))); (case hs_5 => assumption); (try simp only [Act.put, List.setIfInBounds_toArray, List.set_cons_zero, List.set_cons_succ])
        refine wpAnyH_take (i := 7) (oi := ?oi_6) (v := ?v_6) ?ho_6 ?h1_6 ?h2_6 ?h3_6 ?hq_6 (Or.inl ⟨?hw_6, ?hy_6⟩) ?hs_6 ?rest_6; (case h2_6 => kernel_rfl); (case h3_6 => kernel_rfl); (case ho_6 => (simp only [List.getElem?_toArray, List.getElem?_cons_zero, List.getElem?_cons_succ]; rfl)); (case h1_6 => kernel_rfl); (case hq_6 => exact fun _ _ _ h => h); (case hw_6 => rfl); (case hy_6 => (intro w' hSw; (try simp only [S] at hSw); go_simp; (try with_reducible rfl))); (case hs_6 => assumption); (try simp only [Act.put, List.setIfInBounds_toArray, List.set_cons_zero, List.set_cons_succ])
        refine wpAnyH_take (i := 8) (oi := ?oi_7) (v := ?v_7) ?ho_7 ?h1_7 ?h2_7 ?h3_7 ?hq_7 (Or.inl ⟨?hw_7, ?hy_7⟩) ?hs_7 ?rest_7; (case h2_7 => kernel_rfl); (case h3_7 => kernel_rfl); (case ho_7 => (simp only [List.getElem?_toArray, List.getElem?_cons_zero, List.getElem?_cons_succ]; rfl)); (case h1_7 => kernel_rfl); (case hq_7 => exact fun _ _ _ h => h); (case hw_7 => rfl); (case hy_7 => (intro w' hSw; (try simp only [S] at hSw); go_simp; (try with_reducible rfl))); (case hs_7 => assumption); (try simp only [Act.put, List.setIfInBounds_toArray, List.set_cons_zero, List.set_cons_succ])
        refine wpAnyH_take (i := 9) (oi := ?oi_8) (v := ?v_8) ?ho_8 ?h1_8 ?h2_8 ?h3_8 ?hq_8 (Or.inl ⟨?hw_8, ?hy_8⟩) ?hs_8 ?rest_8; (case h2_8 => kernel_rfl); (case h3_8 => kernel_rfl); (case ho_8 => (simp only [List.getElem?_toArray, List.getElem?_cons_zero, List.getElem?_cons_succ]; rfl)); (case h1_8 => kernel_rfl); (case hq_8 => exact fun _ _ _ h => h); (case hw_8 => rfl); (case hy_8 => (intro w' hSw; (try simp only [S] at hSw); go_simp; (try with_reducible rfl))); (case hs_8 => assumption); (try simp only [Act.put, List.setIfInBounds_toArray, List.set_cons_zero, List.set_cons_succ])
        refine wpAnyH_take (i := 10) (oi := ?oi_9) (v := ?v_9) ?ho_9 ?h1_9 ?h2_9 ?h3_9 ?hq_9 (Or.inl ⟨?hw_9, ?hy_9⟩) ?hs_9 ?rest_9; (case h2_9 => kernel_rfl); (case h3_9 => kernel_rfl); (case ho_9 => (simp only [List.getElem?_toArray, List.getElem?_cons_zero, List.getElem?_cons_succ]; rfl)); (case h1_9 => kernel_rfl); (case hq_9 => exact fun _ _ _ h => h); (case hw_9 => rfl); (case hy_9 => (intro w' hSw; (try simp only [S] at hSw); go_simp; (try with_reducible rfl))); (case hs_9 => assumption); (try simp only [Act.put, List.setIfInBounds_toArray, List.set_cons_zero, List.set_cons_succ])
        refine wpAnyH_take (i := 11) (oi := ?oi_10) (v := ?v_10) ?ho_10 ?h1_10 ?h2_10 ?h3_10 ?hq_10 (Or.inl ⟨?hw_10, ?hy_10⟩) ?hs_10 ?rest_10; (case h2_10 => kernel_rfl); (case h3_10 => kernel_rfl); (case ho_10 => (simp only [List.getElem?_toArray, List.getElem?_cons_zero, List.getElem?_cons_succ]; rfl)); (case h1_10 => kernel_rfl); (case hq_10 => exact fun _ _ _ h => h); (case hw_10 => rfl); (case hy_10 => (intro w' hSw; (try simp only [S] at hSw); go_simp; (try with_reducible rfl))); (case hs_10 => assumption); (try simp only [Act.put, List.setIfInBounds_toArray, List.set_cons_zero, List.set_cons_succ])
        clear y1 y2
        refine wpAnyH_ready (rs := [5]) (by kernel_rfl) (by simp) (AllReadyH.cons (o := ?oo5_17) ?hoo5_17 (fun K hK => ?steponly17) AllReadyH.nil); (case hoo5_17 => (simp only [List.getElem?_toArray, List.getElem?_cons_zero, List.getElem?_cons_succ]; rfl))
        go_simp
        refine (hfl _).mono ?_
        rintro e X1 ⟨rfl, hb1⟩
        have hT1 := hTd.below hb1
        have hB1 := hBY.trans (((Below.refl _ _).drew).trans (hb1.mono (by show w.heap.size ≤ Y.heap.size; omega)))
        have e1 : X1.heap[wr.heap.size]? = Y.heap[wr.heap.size]? := hb1.block _ hGY
        have hz1 : Y.heap.size ≤ X1.heap.size := hb1.size
        refine hK.out _ _ (HS.out _ e1) (fun _ => ?_)
        clear hK K
        (try simp only [Act.put, List.setIfInBounds_toArray, List.set_cons_zero, List.set_cons_succ])
        refine wpAnyH_ready (rs := [6]) (by kernel_rfl) (by simp) (AllReadyH.cons (o := ?oo6_18) ?hoo6_18 (fun K hK => ?steponly18) AllReadyH.nil); (case hoo6_18 => (simp only [List.getElem?_toArray, List.getElem?_cons_zero, List.getElem?_cons_succ]; rfl))
        go_simp
        refine (hwr _ hT1.d).mono ?_
        rintro e X2 ⟨rfl, v2, hD2, hs2⟩
        obtain ⟨hQ2, dis2⟩ := hT1.stepD hs2
        have hB2 := hB1.trans (hs2.below hT1.d)
        have e2 : X2.heap[wr.heap.size]? = Y.heap[wr.heap.size]? := (hs2.but.block _ (by omega) (fun hj => by have := hGd _ hj; omega)).trans e1
        have hz2 := hs2.but.size
        refine hK.out _ _ (HS.out _ e2) (fun _ => ?_)
        clear hK K
        (try simp only [Act.put, List.setIfInBounds_toArray, List.set_cons_zero, List.set_cons_succ])
        refine wpAnyH_ready (rs := [12]) (by kernel_rfl) (by simp) (AllReadyH.cons (o := ?oo12_19) ?hoo12_19 (fun K hK => ?steponly19) AllReadyH.nil); (case hoo12_19 => (simp only [List.getElem?_toArray, List.getElem?_cons_zero, List.getElem?_cons_succ]; rfl))
        go_simp
        refine (hfl _).mono ?_
        rintro e X3 ⟨rfl, hb3⟩
        have hQ3 := hQ2.below hb3
        have hD3 := hD2.below hb3
        have hB3 := hB2.trans (hb3.mono (by omega))
        have e3 : X3.heap[wr.heap.size]? = Y.heap[wr.heap.size]? := (hb3.block _ (by omega)).trans e2
        have hz3 := hb3.size
        refine hK.out _ _ (HS.out _ e3) (fun _ => ?_)
        clear hK K
        (try simp only [Act.put, List.setIfInBounds_toArray, List.set_cons_zero, List.set_cons_succ])
        refine wpAnyH_ready (rs := [13]) (by kernel_rfl) (by simp) (AllReadyH.cons (o := ?oo13_20) ?hoo13_20 (fun K hK => ?steponly20) AllReadyH.nil); (case hoo13_20 => (simp only [List.getElem?_toArray, List.getElem?_cons_zero, List.getElem?_cons_succ]; rfl))
        go_simp
        refine (hwq _ hQ3).mono ?_
        rintro e X4 ⟨rfl, vq4, F4, hQ4, hs4⟩
        have hT4 : Two X4 w.heap.size (w.heap.size + 1) w.heap.size pq Bq v2 vq4 (s.write x.i (fillB x.v)) F4 := Two.stepQ (s := s) (F := F) hD3 dis2 hQ4 hs4
        have hB4 := hB3.trans (RStep.below hQ3 hs4)
        have e4 : X4.heap[wr.heap.size]? = Y.heap[wr.heap.size]? := (hs4.but.block _ (by omega) (fun hj => by have := hGq _ hj; omega)).trans e3
        refine hK.out _ _ (HS.out _ e4) (fun _ => ?_)
        clear hK K
        (try simp only [Act.put, List.setIfInBounds_toArray, List.set_cons_zero, List.set_cons_succ])
        clear hwr hwq hfl hTd hT1 hQ2 hQ3 hQ4 hD2 hD3 hs2 hs4 dis2 hS0 e1 e2 e3 e4
        obtain ⟨s2, hs2e⟩ : ∃ s2, s.write x.i (fillB x.v) = s2 := ⟨_, rfl⟩
        rw [hs2e] at hT4 hwl
        clear hs2e
        obtain ⟨q, hqe⟩ : ∃ q, s.writeE x.i = q := ⟨_, rfl⟩
        rw [hqe]
        clear hqe
        refine wpAnyH_take (i := 14) (oi := ?oi_11) (v := ?v_11) ?ho_11 ?h1_11 ?h2_11 ?h3_11 ?hq_11 (Or.inl ⟨?hw_11, ?hy_11⟩) ?hs_11 ?rest_11; (case h2_11 => kernel_rfl); (case h3_11 => kernel_rfl); (case ho_11 => (simp only [List.getElem?_toArray, List.getElem?_cons_zero, List.getElem?_cons_succ]; rfl)); (case h1_11 => kernel_rfl); (case hq_11 => exact fun _ _ _ h => h); (case hw_11 => rfl); (case hy_11 => (intro w' hSw; (try simp only [S] at hSw); go_simp; (try with_reducible rfl))); (case hs_11 => assumption); (try simp only [Act.put, List.setIfInBounds_toArray, List.set_cons_zero, List.set_cons_succ])
        refine wpAnyH_done (by kernel_rfl) ?_ _
        clear hTwo
        have hT9 := hT4
        have hqn := hT9.q
        obtain ⟨A9, c9, hv9, -, -⟩ := hqn.form
        obtain ⟨hb0, z0, z1, z2, z3, z4, zfr⟩ := hqn.hds
        rw [hv9] at z1
        have hDn := fun n => hT9.d.below (w' := World.drewN X4 n) (bDrewN (Below.refl _ _) n)
        have lo9 := fun n => loose_any (hDn n)
        have le9 := fun n => len_any (hDn n)
        have do9 := fun n => done_any (hDn n)
        have dn9 := fun n => down_any (hDn n)
        have T9 := Lib.hid (And.intro hT9 (And.intro (hB4) (And.intro (show s2.done ≤ k + 1 by omega) (show s2.lo.length ≤ k + 1 by omega))))
        clear hqn hb0 zfr hDn hT9
        obtain ⟨nlo, hnlo⟩ : ∃ n, (s2).lo.length = n := ⟨_, rfl⟩
        obtain ⟨nbl, hnbl⟩ : ∃ n, (s2).bl.length = n := ⟨_, rfl⟩
        obtain ⟨ndo, hndo⟩ : ∃ n, (s2).done = n := ⟨_, rfl⟩
        obtain ⟨bdn, hbdn⟩ : ∃ n, (s2).down = n := ⟨_, rfl⟩
        rw [hnlo] at z1 lo9
        rw [hnbl] at z0 le9
        rw [hndo] at z4 do9
        rw [hbdn] at z3 dn9
        unfold dp at lo9 le9 do9 dn9
        go_upto_region 29 with (fail)
        refine wp_region_quiet_lit (by kernel_rfl) (by kernel_rfl) ?_
        iterate 1 (quiet_step (fail))
        quiet_step ((go_at_call 39; exact q_same (lo9 _)))
        iterate 8 (quiet_step (fail))
        quiet_step ((go_at_call 40; exact q_same (le9 _)))
        iterate 9 (quiet_step (fail))
        quiet_step ((go_at_call 41; exact q_same (dn9 _)))
        iterate 8 (quiet_step (fail))
        quiet_step ((go_at_call 42; exact q_same (do9 _)))
        iterate 6 (quiet_step (fail))
        refine wpQuiet_nil ?_
        intro _ hw'
        obtain ⟨nq, hw''⟩ := hw'
        subst hw''
        go_wp2_with fail
        go_roundw
        case rel => exact ⟨k + 1, s2, _, _, _, by go_num, by omega, T9.out.2.2.1, T9.out.2.2.2, T9.out.1.below (bDrewN (Below.refl _ _) _), T9.out.2.1.trans (bDrewN (Below.refl _ _) _)⟩
        case measure => simp [intOf]; omega
      · by_cases k1 : x.kind = 1
        · -- Read
          rw [k1] at y0
          have hr := hTwo.d.ok.read x.i
          go_wp2_with fail
          refine (read_any hTwo.d (by omega) x.i).mono ?_
          rintro e X2 ⟨rfl, hb2⟩
          have hT2 := hTwo.below hb2
          have hB2 := hBY.trans (hb2.mono (by omega))
          have hzY := hb2.size
          obtain ⟨rb, hrb⟩ : ∃ r, s.read x.i = r := ⟨_, rfl⟩
          obtain ⟨re, hre⟩ : ∃ r, s.readE x.i = r := ⟨_, rfl⟩
          have hrq := fun W (h : RDk W w.heap.size pq Bq vq s F) => rread_any h (by omega) x.i
          unfold bkv dp at hrq
          rw [hrb] at hr hrq
          rw [hre] at hrq
          rw [hrb, hre]
          clear hrb hre
          have zz := blk_sizes zblk_len hr
          have bsm := bk_same hr
          obtain ⟨X3, hX3⟩ : ∃ W, World.setRow (X2.alloc (.cells (bvs zblk).toArray 55)) X2.heap.size (bvs rb).toArray = W := ⟨_, rfl⟩
          have hb3 : Below X2.heap.size X2 X3 := by rw [← hX3]; exact bSetRow ((Below.refl _ _).alloc (Nat.le_refl _) _) (Nat.le_refl _) _
          have g3 : X3.heap[X2.heap.size]? = some (.cells (bvs rb).toArray 55) := by rw [← hX3]; exact setRow_heap _ _ _ _ _ _ (heap_alloc_new _ _)
          have hT3 := hT2.below hb3
          have hB3 := hB2.trans (hb3.mono (by omega))
          have hg3 := (Array.getElem?_eq_some_iff.1 g3).1
          have y1' : X3.cell? ⟨wr.heap.size, 1, none⟩ = some (.int .i64 x.i) := (World.cell?_of_block (a := ⟨wr.heap.size, 1, none⟩) ((hb3.block wr.heap.size (by omega)).trans (hb2.block _ hGY))).trans y1
          clear hT2 hb2 hb3 hB2 hTwo hxs hxsY
          go_wp2_with (first
            | (refine wpList_new rfl blkZ rfl ?_)
            | (refine wpList_store_row rfl 55 (.tmp 11) (.tmp 82) rfl _ (bvs rb).toArray rfl rfl _ (bvs zblk).toArray (heap_alloc_new _ _) (bk_info hr) zz (all_oneCell_toArray (oneCell_bvs _)) ?_)
            | fail)
          refine (hrq _ hT3.q).mono ?_
          rintro e X4 ⟨rfl, hb4⟩
          obtain ⟨X5, hX5⟩ : ∃ W, World.setRow (X4.alloc (.cells (bvs zblk).toArray 55)) X4.heap.size (bvs rb).toArray = W := ⟨_, rfl⟩
          have hb5 : Below X4.heap.size X4 X5 := by rw [← hX5]; exact bSetRow ((Below.refl _ _).alloc (Nat.le_refl _) _) (Nat.le_refl _) _
          have g5 : X5.heap[X4.heap.size]? = some (.cells (bvs rb).toArray 55) := by rw [← hX5]; exact setRow_heap _ _ _ _ _ _ (heap_alloc_new _ _)
          have hTwo := (hT3.below hb4).below hb5
          have hz4 := hb4.size
          have g35 := bBlk hb5 (by omega) (bBlk hb4 hg3 g3)
          have hB5 := hB3.trans ((hb4.mono hB3.size).trans (hb5.mono (by have := hB3.size; omega)))
          clear g3 hT3 hb4 hb5 hrq hB3 hX3 y1' hg3
          have hT5 := hTwo
          clear y1 y2 y3 yb
          go_upto_region 18 with (first
            | (refine wpList_new rfl blkZ rfl ?_)
            | (refine wpList_store_row rfl 55 (.tmp 13) (.tmp 89) rfl _ (bvs rb).toArray rfl rfl _ (bvs zblk).toArray (heap_alloc_new _ _) (bk_info hr) zz (all_oneCell_toArray (oneCell_bvs _)) ?_)
            | fail)
          refine wp_region_lit ?_
          refine wpList_load_row rfl 55 (.tmp 11) rfl _ rfl _ (bvs rb).toArray (0, 0) _ g35 Try.underlying55 rfl (bk_info hr) ?_
          (try simp only [Act.put, List.setIfInBounds_toArray, List.set_cons_zero, List.set_cons_succ])
          refine wpList_load_row rfl 55 (.tmp 13) rfl _ rfl _ (bvs rb).toArray (0, 0) _ g5 Try.underlying55 rfl (bk_info hr) ?_
          (try simp only [Act.put, List.setIfInBounds_toArray, List.set_cons_zero, List.set_cons_succ])
          clear hTwo
          have hT9 := hT5
          have hqn := hT9.q
          obtain ⟨A9, c9, hv9, -, -⟩ := hqn.form
          obtain ⟨hb0, z0, z1, z2, z3, z4, zfr⟩ := hqn.hds
          rw [hv9] at z1
          have hDn := fun n => hT9.d.below (w' := World.drewN X5 n) (bDrewN (Below.refl _ _) n)
          have lo9 := fun n => loose_any (hDn n)
          have le9 := fun n => len_any (hDn n)
          have do9 := fun n => done_any (hDn n)
          have dn9 := fun n => down_any (hDn n)
          have T9 := Lib.hid (And.intro hT9 (And.intro (hB5) (And.intro (show s.done ≤ k + 1 by omega) (show s.lo.length ≤ k + 1 by omega))))
          clear hqn hb0 zfr hDn hT9
          obtain ⟨nlo, hnlo⟩ : ∃ n, (s).lo.length = n := ⟨_, rfl⟩
          obtain ⟨nbl, hnbl⟩ : ∃ n, (s).bl.length = n := ⟨_, rfl⟩
          obtain ⟨ndo, hndo⟩ : ∃ n, (s).done = n := ⟨_, rfl⟩
          obtain ⟨bdn, hbdn⟩ : ∃ n, (s).down = n := ⟨_, rfl⟩
          rw [hnlo] at z1 lo9
          rw [hnbl] at z0 le9
          rw [hndo] at z4 do9
          rw [hbdn] at z3 dn9
          unfold dp at lo9 le9 do9 dn9
          go_upto_region 29 with (fail)
          refine wp_region_quiet_lit (by kernel_rfl) (by kernel_rfl) ?_
          iterate 1 (quiet_step (fail))
          quiet_step ((go_at_call 39; exact q_same (lo9 _)))
          iterate 8 (quiet_step (fail))
          quiet_step ((go_at_call 40; exact q_same (le9 _)))
          iterate 9 (quiet_step (fail))
          quiet_step ((go_at_call 41; exact q_same (dn9 _)))
          iterate 8 (quiet_step (fail))
          quiet_step ((go_at_call 42; exact q_same (do9 _)))
          iterate 6 (quiet_step (fail))
          refine wpQuiet_nil ?_
          intro _ hw'
          obtain ⟨nq, hw''⟩ := hw'
          subst hw''
          go_wp2_with fail
          go_roundw
          case rel => exact ⟨k + 1, s, _, _, _, by go_num, by omega, T9.out.2.2.1, T9.out.2.2.2, T9.out.1.below (bDrewN (Below.refl _ _) _), T9.out.2.1.trans (bDrewN (Below.refl _ _) _)⟩
          case measure => simp [intOf]; omega
        · by_cases k2 : x.kind = 2
          · -- Sync
            rw [k2] at y0
            have hsl := sy_le s
            go_wp2_with fail
            refine (sync_any hTwo.d (by omega) (by omega)).mono ?_
            rintro e X2 ⟨rfl, v2, hD2, hs2⟩
            obtain ⟨hQ2, dis2⟩ := hTwo.stepD hs2
            have hB2 := hBY.trans (hs2.below hTwo.d)
            have hsq := rsync_any hQ2 (by omega) (by omega)
            unfold dp at hsq
            obtain ⟨q, hqe⟩ : ∃ q, s.passE = q := ⟨_, rfl⟩
            rw [hqe] at hsq ⊢
            clear hqe hs2
            go_wp2_with fail
            refine hsq.mono ?_
            rintro e X4 ⟨rfl, vq4, F4, hQ4, hs4⟩
            have hT4 : Two X4 w.heap.size (w.heap.size + 1) w.heap.size pq Bq v2 vq4 s.sync F4 := Two.stepQ (s := s) (F := F) hD2 dis2 hQ4 hs4
            have hB4 := hB2.trans (RStep.below hQ2 hs4)
            obtain ⟨s2, hs2e⟩ : ∃ s2, s.sync = s2 := ⟨_, rfl⟩
            rw [hs2e] at hT4 hsl
            clear hs2e hQ2 dis2 hsq hD2 hQ4 hs4 hxs hxsY y1 y2 y3 yb
            clear hTwo
            have hT9 := hT4
            have hqn := hT9.q
            obtain ⟨A9, c9, hv9, -, -⟩ := hqn.form
            obtain ⟨hb0, z0, z1, z2, z3, z4, zfr⟩ := hqn.hds
            rw [hv9] at z1
            have hDn := fun n => hT9.d.below (w' := World.drewN X4 n) (bDrewN (Below.refl _ _) n)
            have lo9 := fun n => loose_any (hDn n)
            have le9 := fun n => len_any (hDn n)
            have do9 := fun n => done_any (hDn n)
            have dn9 := fun n => down_any (hDn n)
            have T9 := Lib.hid (And.intro hT9 (And.intro (hB4) (And.intro (show s2.done ≤ k + 1 by omega) (show s2.lo.length ≤ k + 1 by omega))))
            clear hqn hb0 zfr hDn hT9
            obtain ⟨nlo, hnlo⟩ : ∃ n, (s2).lo.length = n := ⟨_, rfl⟩
            obtain ⟨nbl, hnbl⟩ : ∃ n, (s2).bl.length = n := ⟨_, rfl⟩
            obtain ⟨ndo, hndo⟩ : ∃ n, (s2).done = n := ⟨_, rfl⟩
            obtain ⟨bdn, hbdn⟩ : ∃ n, (s2).down = n := ⟨_, rfl⟩
            rw [hnlo] at z1 lo9
            rw [hnbl] at z0 le9
            rw [hndo] at z4 do9
            rw [hbdn] at z3 dn9
            unfold dp at lo9 le9 do9 dn9
            go_upto_region 29 with (fail)
            refine wp_region_quiet_lit (by kernel_rfl) (by kernel_rfl) ?_
            iterate 1 (quiet_step (fail))
            quiet_step ((go_at_call 39; exact q_same (lo9 _)))
            iterate 8 (quiet_step (fail))
            quiet_step ((go_at_call 40; exact q_same (le9 _)))
            iterate 9 (quiet_step (fail))
            quiet_step ((go_at_call 41; exact q_same (dn9 _)))
            iterate 8 (quiet_step (fail))
            quiet_step ((go_at_call 42; exact q_same (do9 _)))
            iterate 6 (quiet_step (fail))
            refine wpQuiet_nil ?_
            intro _ hw'
            obtain ⟨nq, hw''⟩ := hw'
            subst hw''
            go_wp2_with fail
            go_roundw
            case rel => exact ⟨k + 1, s2, _, _, _, by go_num, by omega, T9.out.2.2.1, T9.out.2.2.2, T9.out.1.below (bDrewN (Below.refl _ _) _), T9.out.2.1.trans (bDrewN (Below.refl _ _) _)⟩
            case measure => simp [intOf]; omega
          · by_cases k3 : x.kind = 3
            · -- Crash
              rw [k3] at y0
              let S : World → Prop := fun w' => w'.cell? ⟨wr.heap.size, 1, none⟩ = some (.int .i64 x.i) ∧ w'.cell? ⟨wr.heap.size, 3, none⟩ = some (.slice x.A x.keep.length x.c)
              have hS : ∀ w', w'.heap[wr.heap.size]? = Y.heap[wr.heap.size]? → S w' := fun w' h => ⟨(World.cell?_of_block (a := ⟨wr.heap.size, 1, none⟩) h).trans y1, (World.cell?_of_block (a := ⟨wr.heap.size, 3, none⟩) h).trans y3⟩
              have HS := Lib.hid hS
              have hS0 : S Y.drew := hS _ rfl
              obtain ⟨W1, hW1⟩ : ∃ W1, (Y.alloc (.cells #[] 5)).drew = W1 := ⟨_, rfl⟩
              have hb1 : Below Y.heap.size Y W1 := by rw [← hW1]; exact ((Below.refl _ _).alloc (Nat.le_refl _) _).drew
              have e1 : W1.heap[wr.heap.size]? = Y.heap[wr.heap.size]? := hb1.block _ hGY
              have hrow0 : W1.ownsRow Y.heap.size 5 1 (.slice (some ⟨Y.heap.size, 0, none⟩) 0 0) 0 [] := by rw [← hW1]; exact (own_none Y Y.heap.size 5 1 (Nat.le_refl _)).drew
              have hxs1 := hxsY.below (hb1.mono (by omega))
              have hz1 : Y.heap.size + 1 ≤ W1.heap.size := by rw [← hW1]; show _ ≤ (Y.alloc _).heap.size; simp
              obtain ⟨A2, c2, W2, hrun, hrow2, hg2, hat2⟩ := run_app (P := Try.prog) W1 (ty := 50) (t := 50) Try.underlying50 elemU8' hrow0 hxs1 (c := x.c) (oneCell_bvs _) (by simp only [maxLen]; omega) (by omega) (by omega)
              rw [Nat.zero_add, List.nil_append] at hrow2
              rw [Nat.zero_add] at hrun hat2
              have hb2 : Below Y.heap.size W1 W2 := (Below.refl _ _).grown hg2 (by omega) (fun j hj => by simp [Value.ownBlock] at hj; omega)
              have hbY2 := hb1.trans hb2
              have hT2 := hTwo.below hbY2
              have hB2 := hBY.trans (hbY2.mono (by omega))
              have e2 : W2.heap[wr.heap.size]? = Y.heap[wr.heap.size]? := hbY2.block _ hGY
              have hA2 : ∀ b o, 0 < x.keep.length → A2 = some ⟨b, o, none⟩ → ¬ Own (w.heap.size + 1) w.heap.size v b := fun b o _ e hj => by
                have h1 := hGd b hj
                have h2 := (hrow2.lt b (by rw [e]; rfl)).1
                omega
              have hxA : ∀ b o, 0 < x.keep.length → x.A = some ⟨b, o, none⟩ → ¬ Own pq Bq vq b := fun b o h e hj => by
                obtain ⟨b', o', e', hb', -⟩ := hxs.at_ h
                rw [e] at e'
                obtain ⟨rfl, rfl⟩ : b = b' ∧ o = o' := by simpa using e'
                have := (hTwo.q.own_ge b hj).1
                omega
              have hcr := crash_any hT2.d (by omega) x.keep A2 c2 (by omega) (Sl.of_own hrow2) hA2 x.i
              unfold dp at hcr
              have hS1 := HS.out _ e1
              have hS2 := HS.out _ e2
              have HR := Lib.hid (And.intro hT2 (And.intro hB2 (And.intro e2 (And.intro hxs hxA))))
              clear hS y2 yb hxs hxsY hxs1 hrow0 hrow2 hg2 hat2 hA2 hxA hT2 hB2 e2 e1 hb1 hb2 hbY2 hz1
              go_upto_region 24 with (fail)
              refine wp_region_held (S := S) (by kernel_rfl) ?_
              change wpAnyH _ _ _ _ S _ _ _ Y.drew
              refine wpAnyH_take (i := 0) (oi := ?oi_12) (v := ?v_12) ?ho_12 ?h1_12 ?h2_12 ?h3_12 ?hq_12 (Or.inl ⟨?hw_12, ?hy_12⟩) ?hs_12 ?rest_12; (case h2_12 => kernel_rfl); (case h3_12 => kernel_rfl); (case ho_12 => (simp only [List.getElem?_toArray, List.getElem?_cons_zero, List.getElem?_cons_succ]; rfl)); (case h1_12 => kernel_rfl); (case hq_12 => exact fun _ _ _ h => h); (case hw_12 => rfl); (case hy_12 => (intro w' hSw; (try simp only [S] at hSw); go_simp; (try with_reducible rfl))); (case hs_12 => assumption); (try simp only [Act.put, List.setIfInBounds_toArray, List.set_cons_zero, List.set_cons_succ])
              refine wpAnyH_take (i := 2) (oi := ?oi_13) (v := ?v_13) ?ho_13 ?h1_13 ?h2_13 ?h3_13 ?hq_13 (Or.inl ⟨?hw_13, ?hy_13⟩) ?hs_13 ?rest_13; (case h2_13 => kernel_rfl); (case h3_13 => kernel_rfl); (case ho_13 => (simp only [List.getElem?_toArray, List.getElem?_cons_zero, List.getElem?_cons_succ]; rfl)); (case h1_13 => kernel_rfl); (case hq_13 => exact fun _ _ _ h => h); (case hw_13 => rfl); (case hy_13 => (intro w' hSw; (try simp only [S] at hSw); go_simp; (try with_reducible rfl))); (case hs_13 => assumption); (try simp only [Act.put, List.setIfInBounds_toArray, List.set_cons_zero, List.set_cons_succ])
              refine wpAnyH_take (i := 3) (oi := ?oi_14) (v := ?v_14) ?ho_14 ?h1_14 ?h2_14 ?h3_14 ?hq_14 (Or.inl ⟨?hw_14, ?hy_14⟩) ?hs_14 ?rest_14; (case h2_14 => kernel_rfl); (case h3_14 => kernel_rfl); (case ho_14 => (simp only [List.getElem?_toArray, List.getElem?_cons_zero, List.getElem?_cons_succ]; rfl)); (case h1_14 => kernel_rfl); (case hq_14 => exact fun _ _ _ h => h); (case hw_14 => rfl); (case hy_14 => (intro w' hSw; (try simp only [S] at hSw); go_simp; (try with_reducible rfl))); (case hs_14 => assumption); (try simp only [Act.put, List.setIfInBounds_toArray, List.set_cons_zero, List.set_cons_succ])
              refine wpAnyH_take (i := 5) (oi := ?oi_15) (v := ?v_15) ?ho_15 ?h1_15 ?h2_15 ?h3_15 ?hq_15 (Or.inl ⟨?hw_15, ?hy_15⟩) ?hs_15 ?rest_15; (case h2_15 => kernel_rfl); (case h3_15 => kernel_rfl); (case ho_15 => (simp only [List.getElem?_toArray, List.getElem?_cons_zero, List.getElem?_cons_succ]; rfl)); (case h1_15 => kernel_rfl); (case hq_15 => exact fun _ _ _ h => h); (case hw_15 => rfl); (case hy_15 => (intro w' hSw; (try simp only [S] at hSw); go_simp; (try with_reducible rfl))); (case hs_15 => assumption); (try simp only [Act.put, List.setIfInBounds_toArray, List.set_cons_zero, List.set_cons_succ])
              refine wpAnyH_take (i := 6) (oi := ?oi_16) (v := ?v_16) ?ho_16 ?h1_16 ?h2_16 ?h3_16 ?hq_16 (Or.inl ⟨?hw_16, ?hy_16⟩) ?hs_16 ?rest_16; (case h2_16 => kernel_rfl); (case h3_16 => kernel_rfl); (case ho_16 => (simp only [List.getElem?_toArray, List.getElem?_cons_zero, List.getElem?_cons_succ]; rfl)); (case h1_16 => kernel_rfl); (case hq_16 => exact fun _ _ _ h => h); (case hw_16 => rfl); (case hy_16 => (intro w' hSw; (try simp only [S] at hSw); go_simp; (try with_reducible rfl))); (case hs_16 => assumption); (try simp only [Act.put, List.setIfInBounds_toArray, List.set_cons_zero, List.set_cons_succ])
              clear y1 y3
              refine wpAnyH_ready (rs := [1]) (by kernel_rfl) (by simp) (AllReadyH.cons (o := ?oo1_21) ?hoo1_21 (fun K hK => ?steponly21) AllReadyH.nil); (case hoo1_21 => (simp only [List.getElem?_toArray, List.getElem?_cons_zero, List.getElem?_cons_succ]; rfl))
              go_simp
              refine hK.out _ _ hS1 (fun _ => ?_)
              clear hK K
              (try simp only [Act.put, List.setIfInBounds_toArray, List.set_cons_zero, List.set_cons_succ])
              refine wpAnyH_ready (rs := [4]) (by kernel_rfl) (by simp) (AllReadyH.cons (o := ?oo4_22) ?hoo4_22 (fun K hK => ?steponly22) AllReadyH.nil); (case hoo4_22 => (simp only [List.getElem?_toArray, List.getElem?_cons_zero, List.getElem?_cons_succ]; rfl))
              go_simp
              refine hK.out _ _ hS2 (fun _ => ?_)
              clear hK K
              (try simp only [Act.put, List.setIfInBounds_toArray, List.set_cons_zero, List.set_cons_succ])
              refine wpAnyH_ready (rs := [7]) (by kernel_rfl) (by simp) (AllReadyH.cons (o := ?oo7_23) ?hoo7_23 (fun K hK => ?steponly23) AllReadyH.nil); (case hoo7_23 => (simp only [List.getElem?_toArray, List.getElem?_cons_zero, List.getElem?_cons_succ]; rfl))
              go_simp
              refine hcr.mono ?_
              rintro e W3 ⟨rfl, v3, hD3, hs3⟩
              obtain ⟨hQ3, dis3⟩ := HR.out.1.stepD hs3
              have hB3 := HR.out.2.1.trans (hs3.below HR.out.1.d)
              have e3 : W3.heap[wr.heap.size]? = Y.heap[wr.heap.size]? := (hs3.but.block _ (by have := hs3.but.size; have h := (Array.getElem?_eq_some_iff.1 (HR.out.2.2.1.trans (Array.getElem?_eq_getElem hGY))).1; omega) (fun hj => by have := hGd _ hj; omega)).trans HR.out.2.2.1
              refine hK.out _ _ (HS.out _ e3) (fun _ => ?_)
              clear hK K
              (try simp only [Act.put, List.setIfInBounds_toArray, List.set_cons_zero, List.set_cons_succ])
              refine wpAnyH_done (by kernel_rfl) ?_ _
              obtain ⟨y1, y3⟩ : S W3 := HS.out _ e3
              have hrc := rcrash_any hQ3 (by omega) x.keep x.A x.c (by omega) (HR.out.2.2.2.1.next hB3) HR.out.2.2.2.2 x.i
              unfold dp at hrc
              clear hcr hs3 e3 hS1 hS2 hS0
              go_wp2_with fail
              refine hrc.mono ?_
              rintro e X4 ⟨rfl, vq4, F4, hQ4, hs4⟩
              have hT4 : Two X4 w.heap.size (w.heap.size + 1) w.heap.size pq Bq v3 vq4 (s.crash x.keep x.i) F4 := Two.stepQ (s := s) (F := F) hD3 dis3 hQ4 hs4
              have hB4 := hB3.trans (RStep.below hQ3 hs4)
              have hcd : (s.crash x.keep x.i).done = s.done := rfl
              have hcl : (s.crash x.keep x.i).lo.length = 0 := rfl
              obtain ⟨s2, hs2e⟩ : ∃ s2, s.crash x.keep x.i = s2 := ⟨_, rfl⟩
              rw [hs2e] at hT4 hcd hcl
              clear hs2e hQ3 dis3 hrc hD3 hQ4 hs4 HR y1 y3
              clear hTwo
              have hT9 := hT4
              have hqn := hT9.q
              obtain ⟨A9, c9, hv9, -, -⟩ := hqn.form
              obtain ⟨hb0, z0, z1, z2, z3, z4, zfr⟩ := hqn.hds
              rw [hv9] at z1
              have hDn := fun n => hT9.d.below (w' := World.drewN X4 n) (bDrewN (Below.refl _ _) n)
              have lo9 := fun n => loose_any (hDn n)
              have le9 := fun n => len_any (hDn n)
              have do9 := fun n => done_any (hDn n)
              have dn9 := fun n => down_any (hDn n)
              have T9 := Lib.hid (And.intro hT9 (And.intro (hB4) (And.intro (show s2.done ≤ k + 1 by omega) (show s2.lo.length ≤ k + 1 by omega))))
              clear hqn hb0 zfr hDn hT9
              obtain ⟨nlo, hnlo⟩ : ∃ n, (s2).lo.length = n := ⟨_, rfl⟩
              obtain ⟨nbl, hnbl⟩ : ∃ n, (s2).bl.length = n := ⟨_, rfl⟩
              obtain ⟨ndo, hndo⟩ : ∃ n, (s2).done = n := ⟨_, rfl⟩
              obtain ⟨bdn, hbdn⟩ : ∃ n, (s2).down = n := ⟨_, rfl⟩
              rw [hnlo] at z1 lo9
              rw [hnbl] at z0 le9
              rw [hndo] at z4 do9
              rw [hbdn] at z3 dn9
              unfold dp at lo9 le9 do9 dn9
              go_upto_region 29 with (fail)
              refine wp_region_quiet_lit (by kernel_rfl) (by kernel_rfl) ?_
              iterate 1 (quiet_step (fail))
              quiet_step ((go_at_call 39; exact q_same (lo9 _)))
              iterate 8 (quiet_step (fail))
              quiet_step ((go_at_call 40; exact q_same (le9 _)))
              iterate 9 (quiet_step (fail))
              quiet_step ((go_at_call 41; exact q_same (dn9 _)))
              iterate 8 (quiet_step (fail))
              quiet_step ((go_at_call 42; exact q_same (do9 _)))
              iterate 6 (quiet_step (fail))
              refine wpQuiet_nil ?_
              intro _ hw'
              obtain ⟨nq, hw''⟩ := hw'
              subst hw''
              go_wp2_with fail
              go_roundw
              case rel => exact ⟨k + 1, s2, _, _, _, by go_num, by omega, T9.out.2.2.1, T9.out.2.2.2, T9.out.1.below (bDrewN (Below.refl _ _) _), T9.out.2.1.trans (bDrewN (Below.refl _ _) _)⟩
              case measure => simp [intOf]; omega
            · by_cases k4 : x.kind = 4
              · -- Fuse
                rw [k4] at y0
                have hfu := fuse_any hTwo.d x.i hxi.2
                unfold dp at hfu
                clear hxs hxsY
                go_wp2_with fail
                refine hfu.mono ?_
                rintro e X2 ⟨rfl, hD2, hs2⟩
                obtain ⟨hQ2, dis2⟩ := hTwo.stepD (DStep.of_but hs2)
                have hB2 := hBY.trans ((DStep.of_but hs2).below hTwo.d)
                obtain ⟨hQ3, hs3⟩ := hQ2.fuse hxi.1 hxi.2
                obtain ⟨X3, hX3⟩ : ∃ X, X2.setCell ⟨pq, 2, none⟩ (.int .i64 x.i) = X := ⟨_, rfl⟩
                rw [hX3] at hQ3 hs3
                have hT3 : Two X3 w.heap.size (w.heap.size + 1) w.heap.size pq Bq v vq (s.fuseTo x.i) x.i := Two.stepQ (s := s) (F := F) hD2 dis2 hQ3 hs3
                have hB3 := hB2.trans (RStep.below hQ2 hs3)
                have y1' : X2.cell? ⟨wr.heap.size, 1, none⟩ = some (.int .i64 x.i) := (World.cell?_of_block (a := ⟨wr.heap.size, 1, none⟩) (hs2.block wr.heap.size (by omega) (fun e => by have := hGd _ (.inl e); omega))).trans y1
                obtain ⟨hbq, u0, u1, u2, u3, u4, ufr⟩ := hQ2.hds
                have hcd : (s.fuseTo x.i).done = s.done := rfl
                have hcl : (s.fuseTo x.i).lo.length = s.lo.length := rfl
                obtain ⟨s2, hs2e⟩ : ∃ s2, s.fuseTo x.i = s2 := ⟨_, rfl⟩
                rw [hs2e] at hT3 hcd hcl
                clear hs2e dis2 hD2 hQ3 hs3 hs2 hQ2 hfu u0 u1 u3 u4 y1 y2 y3 yb
                clear hTwo
                have hT9 := hT3
                have hqn := hT9.q
                obtain ⟨A9, c9, hv9, -, -⟩ := hqn.form
                obtain ⟨hb0, z0, z1, z2, z3, z4, zfr⟩ := hqn.hds
                rw [hv9] at z1
                have hDn := fun n => hT9.d.below (w' := World.drewN X3 n) (bDrewN (Below.refl _ _) n)
                have lo9 := fun n => loose_any (hDn n)
                have le9 := fun n => len_any (hDn n)
                have do9 := fun n => done_any (hDn n)
                have dn9 := fun n => down_any (hDn n)
                have T9 := Lib.hid (And.intro hT9 (And.intro (hB3) (And.intro (show s2.done ≤ k + 1 by omega) (show s2.lo.length ≤ k + 1 by omega))))
                clear hqn hb0 zfr hDn hT9
                obtain ⟨nlo, hnlo⟩ : ∃ n, (s2).lo.length = n := ⟨_, rfl⟩
                obtain ⟨nbl, hnbl⟩ : ∃ n, (s2).bl.length = n := ⟨_, rfl⟩
                obtain ⟨ndo, hndo⟩ : ∃ n, (s2).done = n := ⟨_, rfl⟩
                obtain ⟨bdn, hbdn⟩ : ∃ n, (s2).down = n := ⟨_, rfl⟩
                rw [hnlo] at z1 lo9
                rw [hnbl] at z0 le9
                rw [hndo] at z4 do9
                rw [hbdn] at z3 dn9
                unfold dp at lo9 le9 do9 dn9
                go_upto_region 29 with (fail)
                refine wp_region_quiet_lit (by kernel_rfl) (by kernel_rfl) ?_
                iterate 1 (quiet_step (fail))
                quiet_step ((go_at_call 39; exact q_same (lo9 _)))
                iterate 8 (quiet_step (fail))
                quiet_step ((go_at_call 40; exact q_same (le9 _)))
                iterate 9 (quiet_step (fail))
                quiet_step ((go_at_call 41; exact q_same (dn9 _)))
                iterate 8 (quiet_step (fail))
                quiet_step ((go_at_call 42; exact q_same (do9 _)))
                iterate 6 (quiet_step (fail))
                refine wpQuiet_nil ?_
                intro _ hw'
                obtain ⟨nq, hw''⟩ := hw'
                subst hw''
                go_wp2_with fail
                go_roundw
                case rel => exact ⟨k + 1, s2, _, _, _, by go_num, by omega, T9.out.2.2.1, T9.out.2.2.2, T9.out.1.below (bDrewN (Below.refl _ _) _), T9.out.2.1.trans (bDrewN (Below.refl _ _) _)⟩
                case measure => simp [intOf]; omega
              · -- none of these
                have d0 : decide (x.kind = 0) = false := by simp [k0]
                have d1 : decide (x.kind = 1) = false := by simp [k1]
                have d2 : decide (x.kind = 2) = false := by simp [k2]
                have d3 : decide (x.kind = 3) = false := by simp [k3]
                have d4 : decide (x.kind = 4) = false := by simp [k4]
                have hT4 := hTwo
                clear hxs hxsY y1 y2 y3 yb
                clear hTwo
                have hT9 := hT4
                have hqn := hT9.q
                obtain ⟨A9, c9, hv9, -, -⟩ := hqn.form
                obtain ⟨hb0, z0, z1, z2, z3, z4, zfr⟩ := hqn.hds
                rw [hv9] at z1
                have hDn := fun n => hT9.d.below (w' := World.drewN Y n) (bDrewN (Below.refl _ _) n)
                have lo9 := fun n => loose_any (hDn n)
                have le9 := fun n => len_any (hDn n)
                have do9 := fun n => done_any (hDn n)
                have dn9 := fun n => down_any (hDn n)
                have T9 := Lib.hid (And.intro hT9 (And.intro (hBY) (And.intro (show s.done ≤ k + 1 by omega) (show s.lo.length ≤ k + 1 by omega))))
                clear hqn hb0 zfr hDn hT9
                obtain ⟨nlo, hnlo⟩ : ∃ n, (s).lo.length = n := ⟨_, rfl⟩
                obtain ⟨nbl, hnbl⟩ : ∃ n, (s).bl.length = n := ⟨_, rfl⟩
                obtain ⟨ndo, hndo⟩ : ∃ n, (s).done = n := ⟨_, rfl⟩
                obtain ⟨bdn, hbdn⟩ : ∃ n, (s).down = n := ⟨_, rfl⟩
                rw [hnlo] at z1 lo9
                rw [hnbl] at z0 le9
                rw [hndo] at z4 do9
                rw [hbdn] at z3 dn9
                unfold dp at lo9 le9 do9 dn9
                go_upto_region 29 with (fail)
                refine wp_region_quiet_lit (by kernel_rfl) (by kernel_rfl) ?_
                iterate 1 (quiet_step (fail))
                quiet_step ((go_at_call 39; exact q_same (lo9 _)))
                iterate 8 (quiet_step (fail))
                quiet_step ((go_at_call 40; exact q_same (le9 _)))
                iterate 9 (quiet_step (fail))
                quiet_step ((go_at_call 41; exact q_same (dn9 _)))
                iterate 8 (quiet_step (fail))
                quiet_step ((go_at_call 42; exact q_same (do9 _)))
                iterate 6 (quiet_step (fail))
                refine wpQuiet_nil ?_
                intro _ hw'
                obtain ⟨nq, hw''⟩ := hw'
                subst hw''
                go_wp2_with fail
                go_roundw
                case rel => exact ⟨k + 1, s, _, _, _, by go_num, by omega, T9.out.2.2.1, T9.out.2.2.2, T9.out.1.below (bDrewN (Below.refl _ _) _), T9.out.2.1.trans (bDrewN (Below.refl _ _) _)⟩
                case measure => simp [intOf]; omega
    · obtain rfl : k = l.length := by omega
      have g1 : ¬ (l.length : Int) < l.length := by omega
      have hcr := crash_any hTwo.d (by omega) [] none 0 (by simp) Sl.nil (fun b o h => absurd h (by simp)) (-1)
      rw [show ([] : List UInt8).length = 0 from rfl] at hcr
      unfold dp at hcr
      clear hs
      go_wp2_with fail
      refine hcr.mono ?_
      rintro e X2 ⟨rfl, v2, hD2, hs2⟩
      obtain ⟨hQ2, dis2⟩ := hTwo.stepD hs2
      have hB2 := hB.trans (hs2.below hTwo.d)
      have hrc := rcrash_any hQ2 (by omega) [] none 0 (by simp) Sl.nil (fun b o h => absurd h (by simp)) (-1)
      rw [show ([] : List UInt8).length = 0 from rfl] at hrc
      unfold dp at hrc
      clear hcr hs2
      go_wp2_with fail
      refine hrc.mono ?_
      rintro e X4 ⟨rfl, vq4, F4, hQ4, hs4⟩
      have hT4 : Two X4 w.heap.size (w.heap.size + 1) w.heap.size pq Bq v2 vq4 (s.crash [] (-1)) F4 := Two.stepQ (s := s) (F := F) hD2 dis2 hQ4 hs4
      have hB4 := hB2.trans (RStep.below hQ2 hs4)
      have hcl : (s.crash [] (-1)).lo = [] := rfl
      have hdn : (s.crash [] (-1)).down = false := rfl
      obtain ⟨s2, hs2e⟩ : ∃ s2, s.crash [] (-1) = s2 := ⟨_, rfl⟩
      rw [hs2e] at hT4 hdn hcl
      have hT4' := hT4
      have hB4' := hB4
      clear hs2e hQ2 dis2 hrc hD2 hQ4 hs4 hTwo hB hB2 hdk hlk
      go_wp2_with fail
      go_loopw [15] (fun i wr => ∃ (k : Nat), i = .int .i64 k ∧ k ≤ s2.bl.length ∧ Two wr w.heap.size (w.heap.size + 1) w.heap.size pq Bq v2 vq4 s2 F4 ∧ Below w.heap.size w wr) (fun i _ => s2.bl.length - (intOf i).toNat)
      case atStart => exact ⟨0, rfl, by omega, hT4', hB4'⟩
      case round =>
        clear hT4 hB4 hT4' hB4'
        obtain ⟨k, rfl, hk, hTwo, hB⟩ := hrel
        obtain ⟨hbq, u0, u1, u2, u3, u4, ufr⟩ := hTwo.q.hds
        have h128 := hTwo.d.ok.n128
        by_cases hlt : k < s2.bl.length
        · have g2 : (k : Int) < s2.bl.length := by omega
          have hin : s2.inB (k : Int) = true := DS.inB_iff.2 ⟨by omega, by omega⟩
          have hr := hTwo.d.ok.blk k
          have hrd := read_any hTwo.d (by rw [hcl]; simp) (k : Int)
          have e1 : s2.read (k : Int) = s2.blk k := by unfold DS.read; rw [hin, hdn, hcl]; simp [lastOf']
          have e2 : s2.readE (k : Int) = 0 := by unfold DS.readE; rw [hin, hdn]; rfl
          rw [e1, e2] at hrd
          unfold bkv dp at hrd
          have hrow := hTwo.q.blkAt hlt
          have hBl := hTwo.q.lt.2
          obtain ⟨rb, hrb⟩ : ∃ r, s2.blk k = r := ⟨_, rfl⟩
          rw [hrb] at hr hrd hrow
          have zz := blk_sizes zblk_len hr
          have hsame := bk_same hr
          obtain ⟨nbl, hnbl⟩ : ∃ n, s2.bl.length = n := ⟨_, rfl⟩
          rw [hnbl] at u0 hlt h128 g2
          clear u1 u2 u3 u4 ufr hrb e1 e2 hin
          go_wp2_with fail
          refine hrd.mono ?_
          rintro e X2 ⟨rfl, hb2⟩
          obtain ⟨X3, hX3⟩ : ∃ W, World.setRow (X2.alloc (.cells (bvs zblk).toArray 55)) X2.heap.size (bvs rb).toArray = W := ⟨_, rfl⟩
          have hb3 : Below X2.heap.size X2 X3 := by rw [← hX3]; exact bSetRow ((Below.refl _ _).alloc (Nat.le_refl _) _) (Nat.le_refl _) _
          have g3 : X3.heap[X2.heap.size]? = some (.cells (bvs rb).toArray 55) := by rw [← hX3]; exact setRow_heap _ _ _ _ _ _ (heap_alloc_new _ _)
          have hz2 := hb2.size
          have hT3 := (hTwo.below hb2).below hb3
          have hB3 := hB.trans ((hb2.mono hB.size).trans (hb3.mono (by have := hB.size; omega)))
          have hrow3 := bRange hb3 (by omega) (bRange hb2 hBl hrow)
          obtain ⟨hbq', z0, z1, z2, z3, z4, zfr⟩ := hT3.q.hds
          rw [hnbl] at z0
          have hq8 : ∀ w', (∃ n, w' = X3.drewN n) → w'.rangeAt X2.heap.size 0 (bvs rb) := by
            rintro w' ⟨n, rfl⟩ j u hj
            rw [Nat.zero_add]
            exact blk_cell g3 (by simpa using hj)
          have hqG : ∀ w', (∃ n, w' = X3.drewN n) → w'.rangeAt Bq (k * 128) (bvs rb) := by
            rintro w' ⟨n, rfl⟩ j u hj
            exact hrow3 j u hj
          have T3 := Lib.hid (And.intro hT3 hB3)
          clear hrd hb2 hb3 hrow hrow3 hTwo hB hT3 hB3 u0 g3 z1 z2 z3 z4 zfr
          go_upto_region 39 with (first
            | (refine wpList_new rfl blkZ rfl ?_)
            | (refine wpList_store_row rfl 55 (.tmp 16) (.tmp 189) rfl _ (bvs rb).toArray rfl rfl _ (bvs zblk).toArray (heap_alloc_new _ _) (bk_info hr) zz (all_oneCell_toArray (oneCell_bvs _)) ?_)
            | fail)
          refine wp_region_quiet_lit (by kernel_rfl) (by kernel_rfl) ?_
          iterate 3 (quiet_step (fail))
          refine wpQuiet_load_row (by simp [Region.wanted, yielded, Act.put]) 55 _ rfl _ _ rfl (bvs rb) hq8 _ Try.underlying55 rfl (bk_len hr) ?_
          iterate 6 (quiet_step (fail))
          refine wpQuiet_load_row (by simp [Region.wanted, yielded, Act.put]) 55 _ rfl _ _ rfl (bvs rb) hqG _ Try.underlying55 rfl (bk_len hr) ?_
          iterate 2 (quiet_step (fail))
          refine wpQuiet_nil ?_
          intro _ hw'
          obtain ⟨nq, hw''⟩ := hw'
          subst hw''
          clear hq8 hqG hsame z0
          go_wp2_with fail
          go_roundw
          case rel => exact ⟨k + 1, by go_num, by omega, T3.out.1.below (bDrewN (Below.refl _ _) _), T3.out.2.trans (bDrewN (Below.refl _ _) _)⟩
          case measure => simp [intOf]; omega
        · obtain rfl : k = s2.bl.length := by omega
          have g2 : ¬ (s2.bl.length : Int) < s2.bl.length := by omega
          clear u1 u2 u3 u4 ufr hTwo
          go_wp2_with fail
          refine (wakes01_any _).mono ?_
          rintro e W2 ⟨rfl, hb2⟩
          go_wp2
          go_ret
          exact Ret.mk rfl (hB.trans (hb2.mono hB.size))

set_option maxRecDepth 100000 in
theorem diskPlays_walk {H : Type} {enc : TypeId × Value → H} {W : World} {base : Nat} {v0 v1 : Value} {d0 d1 : DataW H} {p0 p1 : List MemPlace}
    (k0 : Value.okWide Try.prog W .any base 3 v0) (h0 : DataW.Trod enc Try.prog W 0 (fun _ => true) true 3 v0 d0 p0)
    (k1 : Value.okWide Try.prog W .any base 42 v1) (h1 : DataW.Trod enc Try.prog W 0 (fun _ => true) true 42 v1 d1 p1)
    : Calls Try.prog 7 #[v0, v1] W fun e W' => e = .returned (.bool true) ∧ Below W.heap.size W W' := by
  obtain ⟨n, rfl, -, -, -⟩ := open_int Try.underlying3 k0 h0
  obtain ⟨A, c, l, rfl, a1, a2, a3, a4⟩ := open_steps k1 h1
  exact diskPlays_core n a3 a1 a2 a4
end Go.Proofs.Ythbaogjamenndaa
