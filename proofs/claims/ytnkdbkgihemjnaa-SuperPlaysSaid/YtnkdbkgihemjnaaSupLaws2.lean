/- The walk over SuperPlays. (s4/plays7.py writes it.) -/
import Derived.Test.YtnkdbkgihemjnaaSupStep
namespace Go.Proofs.Ytnkdbkgihemjnaa
set_option linter.unusedSimpArgs false
set_option linter.unusedVariables false
open Go.RowKit Go.ChangeShapes Go.WideShapes Go.Sort

theorem RDk.base {w : World} {b b' p B : Nat} {v : Value} {s : DS} {F : Int} (h : RDk w b p B v s F) (hb : b' ≤ b) : RDk w b' p B v s F :=
  ⟨h.hd, h.bl, own_base h.lo hb, h.pB, Nat.le_trans hb h.bp, Nat.le_trans hb h.bB, h.vp, h.vB, h.ok, h.hF, h.f63⟩
/-- the disk and its reference, apart -/
structure Two (w : World) (b p B pq Bq : Nat) (v vq : Value) (s : DS) (F : Int) : Prop where
  d : Dk w b p B v s
  q : RDk w b pq Bq vq s F
  dis : ∀ k, Own p B v k → ¬ Own pq Bq vq k
theorem Two.below {w w' : World} {b p B pq Bq : Nat} {v vq : Value} {s : DS} {F : Int} (h : Two w b p B pq Bq v vq s F) (hb : Below w.heap.size w w') : Two w' b p B pq Bq v vq s F := ⟨h.d.below hb, h.q.below hb, h.dis⟩
theorem own_step {p B pq Bq : Nat} {v v' vq : Value} {w w' : World} (hs : DStep p B v v' w w') (dis : ∀ k, Own p B v k → ¬ Own pq Bq vq k) (hlt : ∀ k, Own pq Bq vq k → k < w.heap.size) : ∀ k, Own p B v' k → ¬ Own pq Bq vq k := fun k hk hq => by
  rcases hk with e | e | e
  · exact dis k (.inl e) hq
  · exact dis k (.inr (.inl e)) hq
  · rcases hs.own k e with e | e
    · exact dis k (.inr (.inr e)) hq
    · have := hlt k hq; omega
theorem Two.stepD {w w' : World} {b p B pq Bq : Nat} {v v' vq : Value} {s : DS} {F : Int} (h : Two w b p B pq Bq v vq s F) (hs : DStep p B v v' w w') : RDk w' b pq Bq vq s F ∧ (∀ k, Own p B v' k → ¬ Own pq Bq vq k) :=
  ⟨h.q.kept hs.but (Nat.le_refl _) h.dis, own_step hs h.dis (fun k hk => (h.q.own_ge k hk).2)⟩
theorem Two.stepQ {w w' : World} {b p B pq Bq : Nat} {v vq vq' : Value} {s s' : DS} {F F' : Int} (hd : Dk w b p B v s') (dis : ∀ k, Own p B v k → ¬ Own pq Bq vq k) (hq : RDk w' b pq Bq vq' s' F') (hs : DStep pq Bq vq vq' w w') : Two w' b p B pq Bq v vq' s' F' :=
  ⟨hd.kept hs.but (Nat.le_refl _) (fun k hk hk' => dis k hk' hk), hq, fun k hk hk' => own_step hs (fun k h1 h2 => dis k h2 h1) (fun k hk => (hd.own_ge k hk).2) k hk' hk⟩
theorem RDk.fuse {w : World} {b p B : Nat} {v : Value} {s : DS} {F : Int} (h : RDk w b p B v s F) {n : Int} (h1 : -9223372036854775808 ≤ n) (h2 : n ≤ 9223372036854775807) : RDk (w.setCell ⟨p, 2, none⟩ (.int .i64 n)) b p B v (s.fuseTo n) n ∧ DStep p B v v w (w.setCell ⟨p, 2, none⟩ (.int .i64 n)) := by
  have hb : But w.heap.size (· = p) w (w.setCell ⟨p, 2, none⟩ (.int .i64 n)) := (But.refl _ _ _).setp 2 _
  exact ⟨h.head hb (Nat.le_refl _) (blk_set h.hd 2 _) rfl rfl (h.ok.fuseTo h2) rfl ⟨h1, h2⟩, DStep.of_but hb⟩
theorem RStep.below {w w' : World} {b p B : Nat} {v v' : Value} {s : DS} {F : Int} (h : RDk w b p B v s F) (st : DStep p B v v' w w') : Below b w w' :=
  (st.but.less (Nat.le_of_lt (Nat.lt_of_le_of_lt h.bp h.lt.1))).below (Nat.le_refl _) (fun k hk => (h.own_ge k hk).1)
theorem sync_le (s : DS) : s.sync.done ≤ s.done + 1 ∧ s.sync.lo.length ≤ s.lo.length := by
  unfold DS.sync
  split
  · exact ⟨by show s.done ≤ _; omega, Nat.le_refl _⟩
  · exact ⟨Nat.le_refl _, by show ([] : List (Nat × Blk)).length ≤ _; simp⟩
theorem put_le (d : DS) (s : SP) : (d.putS s).done ≤ d.done + 2 ∧ (d.putS s).lo.length ≤ d.lo.length + 1 := by
  have h := write_done d ((s.gen % 2 : Nat) : Int) s.enc
  have h2 := sync_le (d.write ((s.gen % 2 : Nat) : Int) s.enc)
  unfold DS.putS
  split
  · split
    · omega
    · omega
  · omega
theorem write_nil (i : Int) (b : Blk) (w : World) : Calls Try.prog 21 #[.pointer none, .int .i64 i, .agg (bvs b).toArray] w (Ret w (.int .i64 1)) := by
  have hhas := fun W => dhas_nil W i
  go_enter Try.func21, Try.ntmps21
  go_wp2_with fail
  refine (hhas _).mono ?_
  rintro e w' ⟨rfl, rfl⟩
  go_wp2_with fail
  go_ret
  exact Ret.mk rfl (by repeat (first | (with_reducible exact Below.refl _ _) | (with_reducible refine bDrewN ?_ _) | (with_reducible refine Below.drew ?_) | (with_reducible refine Below.alloc ?_ ?_ _) | (with_reducible refine Below.setCell ?_ ?_ _) | (with_reducible assumption) | go_size))

attribute [-go_sem] Builtin.append_
set_option maxHeartbeats 16000000 in
set_option maxRecDepth 100000 in
theorem superPlays_yes (n : Nat) (hm16 : 16 ≤ n) (hm128 : n ≤ 128) {w : World} {A : Option Addr} {c : Nat} {l : List St7} (hs : Sl w w.heap.size 182 A l.length (l.flatMap St7.enc')) (hc : l.length ≤ c) (hm : c ≤ maxLen) (hok : ∀ x ∈ l, x.Ok w) (ht : fair7 l = true) :
    Calls Try.prog 3 #[.int .i64 n, .slice A l.length c] w (Ret w (.bool true)) := by
  have hm2 : l.length ≤ 9223372036854775807 := by simp only [maxLen] at hm; omega
  have hfair := fair7_any (w := w) hs hok hc hm
  rw [ht] at hfair
  have h60 : l.length ≤ 60 ∧ ∀ x ∈ l, x.keep.length ≤ 300 := by
    unfold fair7 at ht
    simp at ht
    exact ⟨ht.2, ht.1⟩
  obtain ⟨hl2, hkp⟩ := h60
  clear ht
  go_enter Try.func3, Try.ntmps3
  go_wp2_with fail
  refine hfair.mono ?_
  rintro e _ ⟨rfl, rfl⟩
  clear hfair
  go_wp2_with fail
  refine (new_any n hm16 hm128 _).mono ?_
  rintro e W1 ⟨rfl, hk1, hb1⟩
  unfold dp
  go_wp2_with fail
  refine (rnew_any n hm16 hm128 _).mono ?_
  rintro e W2 ⟨rfl, hq2, hb2⟩
  unfold dp
  have hz1 := hb1.size
  have hd2 := hk1.below hb2
  have hB2 := hb1.trans (hb2.mono hz1)
  have hTwo : Two W2 w.heap.size (w.heap.size + 1) w.heap.size (W1.heap.size + 1) W1.heap.size (.slice none 0 0) (.slice none 0 0) (DS.new n) (-1) := ⟨hd2, hq2.base hz1, fun k hk hk' => by
    have h1 := hk1.lt
    rcases hk with e | e | e
    · rcases hk' with e' | e' | e'
      · omega
      · omega
      · simp [Value.ownBlock] at e'
    · rcases hk' with e' | e' | e'
      · omega
      · omega
      · simp [Value.ownBlock] at e'
    · simp [Value.ownBlock] at e⟩
  obtain ⟨pq, hpq⟩ : ∃ g, W1.heap.size + 1 = g := ⟨_, rfl⟩
  obtain ⟨Bq, hBq⟩ : ∃ g, W1.heap.size = g := ⟨_, rfl⟩
  rw [hpq, hBq] at hTwo
  rw [hpq]
  clear hpq hBq hk1 hq2 hd2 hb1 hb2 hz1 hm16 hm128
  go_wp2_with fail
  go_loopw [9] (fun i wr => ∃ (k : Nat) (s : DS) (v vq : Value) (F : Int), i = .int .i64 k ∧ k ≤ l.length ∧ s.done ≤ 2 * k ∧ s.lo.length ≤ k ∧ Two wr w.heap.size (w.heap.size + 1) w.heap.size pq Bq v vq s F ∧ Below w.heap.size w wr) (fun i _ => l.length - (intOf i).toNat)
  case atStart => exact ⟨0, DS.new n, _, _, _, rfl, by omega, Nat.le_refl _, Nat.le_refl _, hTwo, hB2⟩
  case round =>
    clear hTwo hB2
    obtain ⟨k, s, v, vq, F, rfl, hk, hdk, hlk, hTwo, hB⟩ := hrel
    by_cases hlt : k < l.length
    · have hGd : ∀ j, Own (w.heap.size + 1) w.heap.size v j → j < wr.heap.size := fun j hj => (hTwo.d.own_ge j hj).2
      have hGq : ∀ j, Own pq Bq vq j → j < wr.heap.size := fun j hj => (hTwo.q.own_ge j hj).2
      obtain ⟨x, hx⟩ : ∃ x, l[k]? = some x := ⟨_, List.getElem?_eq_getElem hlt⟩
      have hxm := List.mem_of_getElem? hx
      have hxo := hok x hxm
      obtain ⟨b, o, rfl, hb, hrow⟩ := st7_at (hs.below hB) hx hxo
      have hxk := hkp x hxm
      have g1 : (k : Int) < l.length := by omega
      have hzr := hB.size
      have hxl : (Try.prog.info? 43).map (·.size) = some x.enc.length := by rw [hxo.len]; kernel_rfl
      have hxz : zSt7.toArray.size = x.enc.toArray.size := by rw [List.size_toArray, List.size_toArray, hxo.len, zSt7_len]
      have hxi : (Try.prog.info? 43).map (·.size) = some x.enc.toArray.size := by rw [List.size_toArray]; exact hxl
      clear hx hxm
      obtain ⟨Y, hY, yb, hbY⟩ := newRow wr zSt7.toArray x.enc.toArray 43
      have hYx := StAt7.of hxo yb
      go_upto_region 8 with (fail)
      refine wp_region_lit ?_
      iterate 9 (first | go_guarded | go_step)
      refine wpList_load_mid rfl 43 (.tmp 37) rfl b (o + k * 182) rfl x.enc _ hrow Try.underlying43 rfl hxl ?_
      (try simp only [Act.put, List.setIfInBounds_toArray, List.set_cons_zero, List.set_cons_succ])
      refine wpList_new rfl st7Z rfl ?_
      (try simp only [Act.put, List.setIfInBounds_toArray, List.set_cons_zero, List.set_cons_succ])
      refine wpList_store_row rfl 43 (.tmp 10) (.tmp 38) rfl _ x.enc.toArray rfl rfl _ zSt7.toArray (heap_alloc_new _ _) hxi hxz (all_oneCell_toArray (st7_one x)) ?_
      (try simp only [Act.put, List.setIfInBounds_toArray, List.set_cons_zero, List.set_cons_succ])
      go_upto_region 9 with (fail)
      try rw [hY]
      have hBY := hB.trans (hbY.mono hzr)
      have hGY : wr.heap.size < Y.heap.size := (Array.getElem?_eq_some_iff.1 yb).1
      have hxsY := hxo.keep.below (B := w.heap.size) hBY
      have lS := sp_len hxo.s
      have lB := bk_len hxo.b
      clear hY hrow hxl hxz hxi yb
      obtain ⟨yb, y0, y1, yS, yB, y3⟩ := hYx
      replace hTwo := hTwo.below hbY
      clear hB hbY
      by_cases k0 : x.kind = 0
      ·
        rw [k0] at y0
        have hpl := put_le s x.s
        let S : World → Prop := fun w' => w'.rangeAt wr.heap.size 2 x.s.cells
        have hS : ∀ w', w'.heap[wr.heap.size]? = Y.heap[wr.heap.size]? → S w' := fun w' h j u hj => (World.cell?_of_block (a := ⟨wr.heap.size, 2 + j, none⟩) h).trans (yS j u hj)
        have HS := Lib.hid hS
        have hS0 : S Y.drew := hS _ rfl
        have hTd := hTwo.below (w' := Y.drew) ((Below.refl _ _).drew)
        have hBd : Below w.heap.size w Y.drew := hBY.trans ((Below.refl _ _).drew)
        have hwr := fun W (h : Dk W w.heap.size (w.heap.size + 1) w.heap.size v s) => sput_any h (by omega) (by omega) hxo.s
        have hwq := fun W (h : RDk W w.heap.size pq Bq vq s F) => rput_any h (by omega) (by omega) hxo.s
        unfold spv dp at hwr hwq
        clear hS y3 yb yB hxsY
        go_upto_region 11 with (fail)
        refine wp_region_held (S := S) (by kernel_rfl) ?_
        change wpAnyH _ _ _ _ S _ _ _ Y.drew
        refine wpAnyH_take (i := 0) (oi := ?oi_1) (v := ?v_1) ?ho_1 ?h1_1 ?h2_1 ?h3_1 ?hq_1 (Or.inl ⟨?hw_1, ?hy_1⟩) ?hs_1 ?rest_1; (case h2_1 => kernel_rfl); (case h3_1 => kernel_rfl); (case ho_1 => (simp only [List.getElem?_toArray, List.getElem?_cons_zero, List.getElem?_cons_succ]; rfl)); (case h1_1 => kernel_rfl); (case hq_1 => exact fun _ _ _ h => h); (case hw_1 => rfl); (case hy_1 => (intro w' hSw; (try simp only [S] at hSw); go_simp; (try with_reducible rfl))); (case hs_1 => assumption); (try simp only [Act.put, List.setIfInBounds_toArray, List.set_cons_zero, List.set_cons_succ])
        refine wpAnyH_take (i := 1) (oi := ?oi_2) (v := ?v_2) ?ho_2 ?h1_2 ?h2_2 ?h3_2 ?hq_2 (Or.inl ⟨?hw_2, ?hy_2⟩) ?hs_2 ?rest_2; (case h2_2 => kernel_rfl); (case h3_2 => kernel_rfl); (case ho_2 => (simp only [List.getElem?_toArray, List.getElem?_cons_zero, List.getElem?_cons_succ]; rfl)); (case h1_2 => kernel_rfl); (case hq_2 => exact fun _ _ _ h => h); (case hw_2 => rfl); (case hy_2 => (intro w' hSw; (try simp only [S] at hSw); go_simp; (try with_reducible rfl))); (case hs_2 => assumption); (try simp only [Act.put, List.setIfInBounds_toArray, List.set_cons_zero, List.set_cons_succ])
        refine wpAnyH_take (i := 2) (oi := ?oi_21) (v := ?v_21) ?ho_21 ?h1_21 ?h2_21 ?h3_21 ?hq_21 (Or.inl ⟨?hw_21, ?hy_21⟩) ?hs_21 ?rest_21; (case h2_21 => kernel_rfl); (case h3_21 => kernel_rfl); (case ho_21 => (simp only [List.getElem?_toArray, List.getElem?_cons_zero, List.getElem?_cons_succ]; rfl)); (case h1_21 => kernel_rfl); (case hq_21 => exact fun _ _ _ h => h); (case hw_21 => rfl); (case hy_21 => (intro w' hSw; refine exec_load_row (x := .tmp 44) ?_ ?_ hSw Try.underlying38 ?_ lS <;> rfl)); (case hs_21 => assumption); (try simp only [Act.put, List.setIfInBounds_toArray, List.set_cons_zero, List.set_cons_succ])
        refine wpAnyH_take (i := 4) (oi := ?oi_3) (v := ?v_3) ?ho_3 ?h1_3 ?h2_3 ?h3_3 ?hq_3 (Or.inl ⟨?hw_3, ?hy_3⟩) ?hs_3 ?rest_3; (case h2_3 => kernel_rfl); (case h3_3 => kernel_rfl); (case ho_3 => (simp only [List.getElem?_toArray, List.getElem?_cons_zero, List.getElem?_cons_succ]; rfl)); (case h1_3 => kernel_rfl); (case hq_3 => exact fun _ _ _ h => h); (case hw_3 => rfl); (case hy_3 => (intro w' hSw; (try simp only [S] at hSw); go_simp; (try with_reducible rfl))); (case hs_3 => assumption); (try simp only [Act.put, List.setIfInBounds_toArray, List.set_cons_zero, List.set_cons_succ])
        refine wpAnyH_take (i := 5) (oi := ?oi_4) (v := ?v_4) ?ho_4 ?h1_4 ?h2_4 ?h3_4 ?hq_4 (Or.inl ⟨?hw_4, ?hy_4⟩) ?hs_4 ?rest_4; (case h2_4 => kernel_rfl); (case h3_4 => kernel_rfl); (case ho_4 => (simp only [List.getElem?_toArray, List.getElem?_cons_zero, List.getElem?_cons_succ]; rfl)); (case h1_4 => kernel_rfl); (case hq_4 => exact fun _ _ _ h => h); (case hw_4 => rfl); (case hy_4 => (intro w' hSw; (try simp only [S] at hSw); go_simp; (try with_reducible rfl))); (case hs_4 => assumption); (try simp only [Act.put, List.setIfInBounds_toArray, List.set_cons_zero, List.set_cons_succ])
        refine wpAnyH_take (i := 6) (oi := ?oi_22) (v := ?v_22) ?ho_22 ?h1_22 ?h2_22 ?h3_22 ?hq_22 (Or.inl ⟨?hw_22, ?hy_22⟩) ?hs_22 ?rest_22; (case h2_22 => kernel_rfl); (case h3_22 => kernel_rfl); (case ho_22 => (simp only [List.getElem?_toArray, List.getElem?_cons_zero, List.getElem?_cons_succ]; rfl)); (case h1_22 => kernel_rfl); (case hq_22 => exact fun _ _ _ h => h); (case hw_22 => rfl); (case hy_22 => (intro w' hSw; refine exec_load_row (x := .tmp 48) ?_ ?_ hSw Try.underlying38 ?_ lS <;> rfl)); (case hs_22 => assumption); (try simp only [Act.put, List.setIfInBounds_toArray, List.set_cons_zero, List.set_cons_succ])
        clear y1 yS
        refine wpAnyH_ready (rs := [3]) (by kernel_rfl) (by simp) (AllReadyH.cons (o := ?oo3_25) ?hoo3_25 (fun K hK => ?steponly25) AllReadyH.nil); (case hoo3_25 => (simp only [List.getElem?_toArray, List.getElem?_cons_zero, List.getElem?_cons_succ]; rfl))
        go_simp
        refine (hwr _ hTd.d).mono ?_
        rintro e X2 ⟨rfl, v2, hD2, hs2⟩
        obtain ⟨hQ2, dis2⟩ := hTd.stepD hs2
        have hB2 := hBd.trans (hs2.below hTd.d)
        have e2 : X2.heap[wr.heap.size]? = Y.heap[wr.heap.size]? := hs2.but.block _ hGY (fun hj => by have := hGd _ hj; omega)
        have hz2 : Y.heap.size ≤ X2.heap.size := hs2.but.size
        refine hK.out _ _ (HS.out _ e2) (fun _ => ?_)
        clear hK K
        (try simp only [Act.put, List.setIfInBounds_toArray, List.set_cons_zero, List.set_cons_succ])
        refine wpAnyH_ready (rs := [7]) (by kernel_rfl) (by simp) (AllReadyH.cons (o := ?oo7_26) ?hoo7_26 (fun K hK => ?steponly26) AllReadyH.nil); (case hoo7_26 => (simp only [List.getElem?_toArray, List.getElem?_cons_zero, List.getElem?_cons_succ]; rfl))
        go_simp
        refine (hwq _ hQ2).mono ?_
        rintro e X4 ⟨rfl, vq4, F4, hQ4, hs4⟩
        have hT4 : Two X4 w.heap.size (w.heap.size + 1) w.heap.size pq Bq v2 vq4 (s.putS x.s) F4 := Two.stepQ (s := s) (F := F) hD2 dis2 hQ4 hs4
        have hB4 := hB2.trans (RStep.below hQ2 hs4)
        have e4 : X4.heap[wr.heap.size]? = Y.heap[wr.heap.size]? := (hs4.but.block _ (by omega) (fun hj => by have := hGq _ hj; omega)).trans e2
        refine hK.out _ _ (HS.out _ e4) (fun _ => ?_)
        clear hK K
        (try simp only [Act.put, List.setIfInBounds_toArray, List.set_cons_zero, List.set_cons_succ])
        clear hwr hwq hTd hQ2 hQ4 hD2 hs2 hs4 dis2 hS0 e2 e4
        obtain ⟨s2, hs2e⟩ : ∃ s2, s.putS x.s = s2 := ⟨_, rfl⟩
        rw [hs2e] at hT4 hpl
        clear hs2e
        obtain ⟨q, hqe⟩ : ∃ q, s.putE x.s = q := ⟨_, rfl⟩
        rw [hqe]
        clear hqe
        refine wpAnyH_take (i := 8) (oi := ?oi_5) (v := ?v_5) ?ho_5 ?h1_5 ?h2_5 ?h3_5 ?hq_5 (Or.inl ⟨?hw_5, ?hy_5⟩) ?hs_5 ?rest_5; (case h2_5 => kernel_rfl); (case h3_5 => kernel_rfl); (case ho_5 => (simp only [List.getElem?_toArray, List.getElem?_cons_zero, List.getElem?_cons_succ]; rfl)); (case h1_5 => kernel_rfl); (case hq_5 => exact fun _ _ _ h => h); (case hw_5 => rfl); (case hy_5 => (intro w' hSw; (try simp only [S] at hSw); go_simp; (try with_reducible rfl))); (case hs_5 => assumption); (try simp only [Act.put, List.setIfInBounds_toArray, List.set_cons_zero, List.set_cons_succ])
        refine wpAnyH_done (by kernel_rfl) ?_ _
        clear hTwo
        have hnw := newest_any hT4.d (by omega)
        have hrn := fun W (hb : Below X4.heap.size X4 W) => rnewest_any (hT4.q.below hb) (by omega)
        unfold dp at hnw hrn
        obtain ⟨NS, hNS⟩ : ∃ s, s2.newest = s := ⟨_, rfl⟩
        have oN : NS.Ok := by rw [← hNS]; exact newest_ok hT4.d.ok
        obtain ⟨NE, hNE⟩ : ∃ s, s2.newestE = s := ⟨_, rfl⟩
        rw [hNS, hNE] at hnw hrn
        have iN := sp_info oN
        have zN := sp_sizes sp0_ok oN
        have hsN := fun w => sp_same oN w
        unfold spv at hnw hrn
        clear hNS hNE
        go_wp2_with fail
        refine Calls.mono hnw ?_
        rintro e X5 ⟨rfl, hb5⟩
        obtain ⟨Y5, hY, a11, bY5⟩ := newRow X5 sp0.cells.toArray NS.cells.toArray 38
        have hz5 := hb5.size
        have hbX5 := hb5.trans (bY5.mono hz5)
        have hrn2 := hrn Y5 hbX5
        go_upto_region 26 with (first
          | (refine wpList_new rfl spZ rfl ?_)
          | (refine wpList_store_row rfl 38 (.tmp 11) (.tmp 102) rfl _ NS.cells.toArray rfl rfl _ sp0.cells.toArray (heap_alloc_new _ _) iN zN (all_oneCell_toArray (one_sp _)) ?_)
          | fail)
        try rw [hY]
        clear hY hnw hrn
        go_wp2_with fail
        refine Calls.mono hrn2 ?_
        rintro e X6 ⟨rfl, hb6⟩
        obtain ⟨Y6, hY, a13, bY6⟩ := newRow X6 sp0.cells.toArray NS.cells.toArray 38
        have hz6 := hb6.size
        have a112 := bBlk bY6 (by have := (Array.getElem?_eq_some_iff.1 a11).1; omega) (bBlk hb6 (Array.getElem?_eq_some_iff.1 a11).1 a11)
        have hbX6 := hbX5.trans ((hb6.trans (bY6.mono hz6)).mono hbX5.size)
        go_upto_region 27 with (first
          | (refine wpList_new rfl spZ rfl ?_)
          | (refine wpList_store_row rfl 38 (.tmp 13) (.tmp 107) rfl _ NS.cells.toArray rfl rfl _ sp0.cells.toArray (heap_alloc_new _ _) iN zN (all_oneCell_toArray (one_sp _)) ?_)
          | fail)
        try rw [hY]
        clear hY hrn2 a11
        refine wp_region_lit ?_
        refine wpList_load_row rfl 38 (.tmp 11) rfl _ rfl _ NS.cells.toArray (0, 0) _ a112 Try.underlying38 rfl iN ?_
        (try simp only [Act.put, List.setIfInBounds_toArray, List.set_cons_zero, List.set_cons_succ])
        refine wpList_load_row rfl 38 (.tmp 13) rfl _ rfl _ NS.cells.toArray (0, 0) _ a13 Try.underlying38 rfl iN ?_
        (try simp only [Act.put, List.setIfInBounds_toArray, List.set_cons_zero, List.set_cons_succ])
        go_wp2_with fail
        go_roundw
        case rel => exact ⟨k + 1, s2, _, _, _, by go_num, by omega, by omega, by omega, hT4.below hbX6, hB4.trans (hbX6.mono hB4.size)⟩
        case measure => simp [intOf]; omega
      · by_cases k1 : x.kind = 1
        ·
          rw [k1] at y0
          have hwl := write_done s x.i x.b
          have hwr := write_any hTwo.d (by omega) (by omega) x.i hxo.b
          unfold bkv dp at hwr
          clear hxsY y3
          go_upto_region 15 with (first
            | (refine wpList_load_mid rfl 40 (.tmp 57) rfl wr.heap.size 53 rfl (bvs x.b) _ yB Try.underlying40 rfl lB ?_)
            | (go_at_call 21; refine Calls.mono hwr ?_; rintro e X2 ⟨rfl, v2, hD2, hs2⟩)
            | fail)
          obtain ⟨hQ2, dis2⟩ := hTwo.stepD hs2
          have hB2 := hBY.trans (hs2.below hTwo.d)
          have e2 : X2.heap[wr.heap.size]? = Y.heap[wr.heap.size]? := hs2.but.block _ hGY (fun hj => by have := hGd _ hj; omega)
          have yB2 : X2.rangeAt wr.heap.size 53 (bvs x.b) := fun j u hj => (World.cell?_of_block (a := ⟨wr.heap.size, 53 + j, none⟩) e2).trans (yB j u hj)
          have y12 : X2.cell? ⟨wr.heap.size, 1, none⟩ = some (.int .i64 x.i) := (World.cell?_of_block (a := ⟨wr.heap.size, 1, none⟩) e2).trans y1
          have hwq := rwrite_any hQ2 (by omega) (by omega) x.i hxo.b
          unfold bkv dp at hwq
          clear hwr yB y1 e2 hs2 yS yb
          go_upto_region 25 with (first
            | (refine wpList_load_mid rfl 40 (.tmp 65) rfl wr.heap.size 53 rfl (bvs x.b) _ yB2 Try.underlying40 rfl lB ?_)
            | (go_at_call 22; refine Calls.mono hwq ?_; rintro e X4 ⟨rfl, vq4, F4, hQ4, hs4⟩)
            | fail)
          have hT4 : Two X4 w.heap.size (w.heap.size + 1) w.heap.size pq Bq v2 vq4 (s.write x.i x.b) F4 := Two.stepQ (s := s) (F := F) hD2 dis2 hQ4 hs4
          have hB4 := hB2.trans (RStep.below hQ2 hs4)
          obtain ⟨s2, hs2e⟩ : ∃ s2, s.write x.i x.b = s2 := ⟨_, rfl⟩
          rw [hs2e] at hT4 hwl
          clear hs2e hwq hQ2 hQ4 hD2 hs4 dis2 yB2 y12 hTwo
          have hnw := newest_any hT4.d (by omega)
          have hrn := fun W (hb : Below X4.heap.size X4 W) => rnewest_any (hT4.q.below hb) (by omega)
          unfold dp at hnw hrn
          obtain ⟨NS, hNS⟩ : ∃ s, s2.newest = s := ⟨_, rfl⟩
          have oN : NS.Ok := by rw [← hNS]; exact newest_ok hT4.d.ok
          obtain ⟨NE, hNE⟩ : ∃ s, s2.newestE = s := ⟨_, rfl⟩
          rw [hNS, hNE] at hnw hrn
          have iN := sp_info oN
          have zN := sp_sizes sp0_ok oN
          have hsN := fun w => sp_same oN w
          unfold spv at hnw hrn
          clear hNS hNE
          go_wp2_with fail
          refine Calls.mono hnw ?_
          rintro e X5 ⟨rfl, hb5⟩
          obtain ⟨Y5, hY, a11, bY5⟩ := newRow X5 sp0.cells.toArray NS.cells.toArray 38
          have hz5 := hb5.size
          have hbX5 := hb5.trans (bY5.mono hz5)
          have hrn2 := hrn Y5 hbX5
          go_upto_region 26 with (first
            | (refine wpList_new rfl spZ rfl ?_)
            | (refine wpList_store_row rfl 38 (.tmp 11) (.tmp 102) rfl _ NS.cells.toArray rfl rfl _ sp0.cells.toArray (heap_alloc_new _ _) iN zN (all_oneCell_toArray (one_sp _)) ?_)
            | fail)
          try rw [hY]
          clear hY hnw hrn
          go_wp2_with fail
          refine Calls.mono hrn2 ?_
          rintro e X6 ⟨rfl, hb6⟩
          obtain ⟨Y6, hY, a13, bY6⟩ := newRow X6 sp0.cells.toArray NS.cells.toArray 38
          have hz6 := hb6.size
          have a112 := bBlk bY6 (by have := (Array.getElem?_eq_some_iff.1 a11).1; omega) (bBlk hb6 (Array.getElem?_eq_some_iff.1 a11).1 a11)
          have hbX6 := hbX5.trans ((hb6.trans (bY6.mono hz6)).mono hbX5.size)
          go_upto_region 27 with (first
            | (refine wpList_new rfl spZ rfl ?_)
            | (refine wpList_store_row rfl 38 (.tmp 13) (.tmp 107) rfl _ NS.cells.toArray rfl rfl _ sp0.cells.toArray (heap_alloc_new _ _) iN zN (all_oneCell_toArray (one_sp _)) ?_)
            | fail)
          try rw [hY]
          clear hY hrn2 a11
          refine wp_region_lit ?_
          refine wpList_load_row rfl 38 (.tmp 11) rfl _ rfl _ NS.cells.toArray (0, 0) _ a112 Try.underlying38 rfl iN ?_
          (try simp only [Act.put, List.setIfInBounds_toArray, List.set_cons_zero, List.set_cons_succ])
          refine wpList_load_row rfl 38 (.tmp 13) rfl _ rfl _ NS.cells.toArray (0, 0) _ a13 Try.underlying38 rfl iN ?_
          (try simp only [Act.put, List.setIfInBounds_toArray, List.set_cons_zero, List.set_cons_succ])
          go_wp2_with fail
          go_roundw
          case rel => exact ⟨k + 1, s2, _, _, _, by go_num, by omega, by omega, by omega, hT4.below hbX6, hB4.trans (hbX6.mono hB4.size)⟩
          case measure => simp [intOf]; omega
        · by_cases k2 : x.kind = 2
          ·
            rw [k2] at y0
            let S : World → Prop := fun w' => w'.cell? ⟨wr.heap.size, 1, none⟩ = some (.int .i64 x.i) ∧ w'.cell? ⟨wr.heap.size, 181, none⟩ = some (.slice x.A x.keep.length x.c)
            have hS : ∀ w', w'.heap[wr.heap.size]? = Y.heap[wr.heap.size]? → S w' := fun w' h => ⟨(World.cell?_of_block (a := ⟨wr.heap.size, 1, none⟩) h).trans y1, (World.cell?_of_block (a := ⟨wr.heap.size, 181, none⟩) h).trans y3⟩
            have HS := Lib.hid hS
            have hS0 : S Y.drew := hS _ rfl
            obtain ⟨W1, hW1⟩ : ∃ W1, (Y.alloc (.cells #[] 5)).drew = W1 := ⟨_, rfl⟩
            have hb1 : Below Y.heap.size Y W1 := by rw [← hW1]; exact ((Below.refl _ _).alloc (Nat.le_refl _) _).drew
            have e1 : W1.heap[wr.heap.size]? = Y.heap[wr.heap.size]? := hb1.block _ hGY
            have hrow0 : W1.ownsRow Y.heap.size 5 1 (.slice (some ⟨Y.heap.size, 0, none⟩) 0 0) 0 [] := by rw [← hW1]; exact (own_none' Y Y.heap.size 5 1 (Nat.le_refl _)).drew
            have hxs1 := hxsY.below (hb1.mono (by omega))
            have hz1 : Y.heap.size + 1 ≤ W1.heap.size := by rw [← hW1]; show _ ≤ (Y.alloc _).heap.size; simp
            have hxc := hxo.kc
            have hxcm := hxo.cm
            obtain ⟨A2, c2, W2, hrun, hrow2, hg2, hat2⟩ := run_app (P := Try.prog) W1 (ty := 41) (t := 41) Try.underlying41 elemC hrow0 hxs1 (c := x.c) (oneCell_bvs _) (by simp only [maxLen]; omega) (by omega) (by omega)
            rw [Nat.zero_add, List.nil_append] at hrow2
            rw [Nat.zero_add] at hrun hat2
            have hb2 : Below Y.heap.size W1 W2 := (Below.refl _ _).grown hg2 (by omega) (fun j hj => by simp [Value.ownBlock] at hj; omega)
            have hbY2 := hb1.trans hb2
            have hB2 := hBY.trans (hbY2.mono (by omega))
            have e2 : W2.heap[wr.heap.size]? = Y.heap[wr.heap.size]? := hbY2.block _ hGY
            have hT2 := hTwo.below hbY2
            have hA2 : ∀ b o, 0 < x.keep.length → A2 = some ⟨b, o, none⟩ → ¬ Own (w.heap.size + 1) w.heap.size v b := fun b o _ e hj => by
              have h1 := hGd b hj
              have h2 := (hrow2.lt b (by rw [e]; rfl)).1
              omega
            have hxA : ∀ b o, 0 < x.keep.length → x.A = some ⟨b, o, none⟩ → ¬ Own pq Bq vq b := fun b o h e hj => by
              obtain ⟨b', o', e', hb', -⟩ := hxo.keep.at_ h
              rw [e] at e'
              obtain ⟨rfl, rfl⟩ : b = b' ∧ o = o' := by simpa using e'
              have := (hTwo.q.own_ge b hj).1
              omega
            have hcr := crash_any hT2.d (by omega) x.keep A2 c2 (by omega) (Sl.of_own hrow2) hA2 x.i
            unfold dp at hcr
            have hS1 := HS.out _ e1
            have hS2 := HS.out _ e2
            have HR := Lib.hid (And.intro hT2 (And.intro hB2 (And.intro e2 (And.intro hxo.keep hxA))))
            clear hS yS yB yb hxsY hxs1 hrow0 hrow2 hg2 hat2 hA2 hxA hT2 hB2 e2 e1 hb1 hb2 hbY2 hz1 hxc hxcm
            go_upto_region 18 with (fail)
            refine wp_region_held (S := S) (by kernel_rfl) ?_
            change wpAnyH _ _ _ _ S _ _ _ Y.drew
            refine wpAnyH_take (i := 0) (oi := ?oi_6) (v := ?v_6) ?ho_6 ?h1_6 ?h2_6 ?h3_6 ?hq_6 (Or.inl ⟨?hw_6, ?hy_6⟩) ?hs_6 ?rest_6; (case h2_6 => kernel_rfl); (case h3_6 => kernel_rfl); (case ho_6 => (simp only [List.getElem?_toArray, List.getElem?_cons_zero, List.getElem?_cons_succ]; rfl)); (case h1_6 => kernel_rfl); (case hq_6 => exact fun _ _ _ h => h); (case hw_6 => rfl); (case hy_6 => (intro w' hSw; (try simp only [S] at hSw); go_simp; (try with_reducible rfl))); (case hs_6 => assumption); (try simp only [Act.put, List.setIfInBounds_toArray, List.set_cons_zero, List.set_cons_succ])
            refine wpAnyH_take (i := 2) (oi := ?oi_7) (v := ?v_7) ?ho_7 ?h1_7 ?h2_7 ?h3_7 ?hq_7 (Or.inl ⟨?hw_7, ?hy_7⟩) ?hs_7 ?rest_7; (case h2_7 => kernel_rfl); (case h3_7 => kernel_rfl); (case ho_7 => (simp only [List.getElem?_toArray, List.getElem?_cons_zero, List.getElem?_cons_succ]; rfl)); (case h1_7 => kernel_rfl); (case hq_7 => exact fun _ _ _ h => h); (case hw_7 => rfl); (case hy_7 => (intro w' hSw; (try simp only [S] at hSw); go_simp; (try with_reducible rfl))); (case hs_7 => assumption); (try simp only [Act.put, List.setIfInBounds_toArray, List.set_cons_zero, List.set_cons_succ])
            refine wpAnyH_take (i := 3) (oi := ?oi_8) (v := ?v_8) ?ho_8 ?h1_8 ?h2_8 ?h3_8 ?hq_8 (Or.inl ⟨?hw_8, ?hy_8⟩) ?hs_8 ?rest_8; (case h2_8 => kernel_rfl); (case h3_8 => kernel_rfl); (case ho_8 => (simp only [List.getElem?_toArray, List.getElem?_cons_zero, List.getElem?_cons_succ]; rfl)); (case h1_8 => kernel_rfl); (case hq_8 => exact fun _ _ _ h => h); (case hw_8 => rfl); (case hy_8 => (intro w' hSw; (try simp only [S] at hSw); go_simp; (try with_reducible rfl))); (case hs_8 => assumption); (try simp only [Act.put, List.setIfInBounds_toArray, List.set_cons_zero, List.set_cons_succ])
            refine wpAnyH_take (i := 5) (oi := ?oi_9) (v := ?v_9) ?ho_9 ?h1_9 ?h2_9 ?h3_9 ?hq_9 (Or.inl ⟨?hw_9, ?hy_9⟩) ?hs_9 ?rest_9; (case h2_9 => kernel_rfl); (case h3_9 => kernel_rfl); (case ho_9 => (simp only [List.getElem?_toArray, List.getElem?_cons_zero, List.getElem?_cons_succ]; rfl)); (case h1_9 => kernel_rfl); (case hq_9 => exact fun _ _ _ h => h); (case hw_9 => rfl); (case hy_9 => (intro w' hSw; (try simp only [S] at hSw); go_simp; (try with_reducible rfl))); (case hs_9 => assumption); (try simp only [Act.put, List.setIfInBounds_toArray, List.set_cons_zero, List.set_cons_succ])
            refine wpAnyH_take (i := 6) (oi := ?oi_10) (v := ?v_10) ?ho_10 ?h1_10 ?h2_10 ?h3_10 ?hq_10 (Or.inl ⟨?hw_10, ?hy_10⟩) ?hs_10 ?rest_10; (case h2_10 => kernel_rfl); (case h3_10 => kernel_rfl); (case ho_10 => (simp only [List.getElem?_toArray, List.getElem?_cons_zero, List.getElem?_cons_succ]; rfl)); (case h1_10 => kernel_rfl); (case hq_10 => exact fun _ _ _ h => h); (case hw_10 => rfl); (case hy_10 => (intro w' hSw; (try simp only [S] at hSw); go_simp; (try with_reducible rfl))); (case hs_10 => assumption); (try simp only [Act.put, List.setIfInBounds_toArray, List.set_cons_zero, List.set_cons_succ])
            clear y1 y3
            refine wpAnyH_ready (rs := [1]) (by kernel_rfl) (by simp) (AllReadyH.cons (o := ?oo1_27) ?hoo1_27 (fun K hK => ?steponly27) AllReadyH.nil); (case hoo1_27 => (simp only [List.getElem?_toArray, List.getElem?_cons_zero, List.getElem?_cons_succ]; rfl))
            go_simp
            refine hK.out _ _ hS1 (fun _ => ?_)
            clear hK K
            (try simp only [Act.put, List.setIfInBounds_toArray, List.set_cons_zero, List.set_cons_succ])
            refine wpAnyH_ready (rs := [4]) (by kernel_rfl) (by simp) (AllReadyH.cons (o := ?oo4_28) ?hoo4_28 (fun K hK => ?steponly28) AllReadyH.nil); (case hoo4_28 => (simp only [List.getElem?_toArray, List.getElem?_cons_zero, List.getElem?_cons_succ]; rfl))
            go_simp
            refine hK.out _ _ hS2 (fun _ => ?_)
            clear hK K
            (try simp only [Act.put, List.setIfInBounds_toArray, List.set_cons_zero, List.set_cons_succ])
            refine wpAnyH_ready (rs := [7]) (by kernel_rfl) (by simp) (AllReadyH.cons (o := ?oo7_29) ?hoo7_29 (fun K hK => ?steponly29) AllReadyH.nil); (case hoo7_29 => (simp only [List.getElem?_toArray, List.getElem?_cons_zero, List.getElem?_cons_succ]; rfl))
            go_simp
            refine hcr.mono ?_
            rintro e W3 ⟨rfl, v3, hD3, hs3⟩
            obtain ⟨hQ3, dis3⟩ := HR.out.1.stepD hs3
            have hB3 := HR.out.2.1.trans (hs3.below HR.out.1.d)
            have e3 : W3.heap[wr.heap.size]? = Y.heap[wr.heap.size]? := (hs3.but.block _ (by have := hs3.but.size; have h := (Array.getElem?_eq_some_iff.1 (HR.out.2.2.1.trans (Array.getElem?_eq_getElem hGY))).1; omega) (fun hj => by have := hGd _ hj; omega)).trans HR.out.2.2.1
            refine hK.out _ _ (HS.out _ e3) (fun _ => ?_)
            clear hK K
            (try simp only [Act.put, List.setIfInBounds_toArray, List.set_cons_zero, List.set_cons_succ])
            refine wpAnyH_done (by kernel_rfl) ?_ _
            obtain ⟨y1, y3⟩ : S W3 := HS.out _ e3
            have hrc := rcrash_any hQ3 (by omega) x.keep x.A x.c (by omega) (HR.out.2.2.2.1.next hB3) HR.out.2.2.2.2 x.i
            unfold dp at hrc
            clear hcr hs3 e3 hS1 hS2 hS0
            go_upto_region 25 with (first
              | (go_at_call 24; refine Calls.mono hrc ?_; rintro e X4 ⟨rfl, vq4, F4, hQ4, hs4⟩)
              | fail)
            have hT4 : Two X4 w.heap.size (w.heap.size + 1) w.heap.size pq Bq v3 vq4 (s.crash x.keep x.i) F4 := Two.stepQ (s := s) (F := F) hD3 dis3 hQ4 hs4
            have hB4 := hB3.trans (RStep.below hQ3 hs4)
            have hcd : (s.crash x.keep x.i).done = s.done := rfl
            have hcl : (s.crash x.keep x.i).lo.length = 0 := rfl
            obtain ⟨s2, hs2e⟩ : ∃ s2, s.crash x.keep x.i = s2 := ⟨_, rfl⟩
            rw [hs2e] at hT4 hcd hcl
            clear hs2e hQ3 dis3 hrc hD3 hQ4 hs4 HR y1 y3 hTwo hrun hW1
            have hnw := newest_any hT4.d (by omega)
            have hrn := fun W (hb : Below X4.heap.size X4 W) => rnewest_any (hT4.q.below hb) (by omega)
            unfold dp at hnw hrn
            obtain ⟨NS, hNS⟩ : ∃ s, s2.newest = s := ⟨_, rfl⟩
            have oN : NS.Ok := by rw [← hNS]; exact newest_ok hT4.d.ok
            obtain ⟨NE, hNE⟩ : ∃ s, s2.newestE = s := ⟨_, rfl⟩
            rw [hNS, hNE] at hnw hrn
            have iN := sp_info oN
            have zN := sp_sizes sp0_ok oN
            have hsN := fun w => sp_same oN w
            unfold spv at hnw hrn
            clear hNS hNE
            go_wp2_with fail
            refine Calls.mono hnw ?_
            rintro e X5 ⟨rfl, hb5⟩
            obtain ⟨Y5, hY, a11, bY5⟩ := newRow X5 sp0.cells.toArray NS.cells.toArray 38
            have hz5 := hb5.size
            have hbX5 := hb5.trans (bY5.mono hz5)
            have hrn2 := hrn Y5 hbX5
            go_upto_region 26 with (first
              | (refine wpList_new rfl spZ rfl ?_)
              | (refine wpList_store_row rfl 38 (.tmp 11) (.tmp 102) rfl _ NS.cells.toArray rfl rfl _ sp0.cells.toArray (heap_alloc_new _ _) iN zN (all_oneCell_toArray (one_sp _)) ?_)
              | fail)
            try rw [hY]
            clear hY hnw hrn
            go_wp2_with fail
            refine Calls.mono hrn2 ?_
            rintro e X6 ⟨rfl, hb6⟩
            obtain ⟨Y6, hY, a13, bY6⟩ := newRow X6 sp0.cells.toArray NS.cells.toArray 38
            have hz6 := hb6.size
            have a112 := bBlk bY6 (by have := (Array.getElem?_eq_some_iff.1 a11).1; omega) (bBlk hb6 (Array.getElem?_eq_some_iff.1 a11).1 a11)
            have hbX6 := hbX5.trans ((hb6.trans (bY6.mono hz6)).mono hbX5.size)
            go_upto_region 27 with (first
              | (refine wpList_new rfl spZ rfl ?_)
              | (refine wpList_store_row rfl 38 (.tmp 13) (.tmp 107) rfl _ NS.cells.toArray rfl rfl _ sp0.cells.toArray (heap_alloc_new _ _) iN zN (all_oneCell_toArray (one_sp _)) ?_)
              | fail)
            try rw [hY]
            clear hY hrn2 a11
            refine wp_region_lit ?_
            refine wpList_load_row rfl 38 (.tmp 11) rfl _ rfl _ NS.cells.toArray (0, 0) _ a112 Try.underlying38 rfl iN ?_
            (try simp only [Act.put, List.setIfInBounds_toArray, List.set_cons_zero, List.set_cons_succ])
            refine wpList_load_row rfl 38 (.tmp 13) rfl _ rfl _ NS.cells.toArray (0, 0) _ a13 Try.underlying38 rfl iN ?_
            (try simp only [Act.put, List.setIfInBounds_toArray, List.set_cons_zero, List.set_cons_succ])
            go_wp2_with fail
            go_roundw
            case rel => exact ⟨k + 1, s2, _, _, _, by go_num, by omega, by omega, by omega, hT4.below hbX6, hB4.trans (hbX6.mono hB4.size)⟩
            case measure => simp [intOf]; omega
          · by_cases k3 : x.kind = 3
            ·
              rw [k3] at y0
              have hfu := fuse_any hTwo.d x.i hxo.i63.2
              unfold dp at hfu
              clear hxsY yS yB yb
              go_upto_region 23 with (first
                | (go_at_call 25; refine Calls.mono hfu ?_; rintro e X2 ⟨rfl, hD2, hs2⟩)
                | fail)
              obtain ⟨hQ2, dis2⟩ := hTwo.stepD (DStep.of_but hs2)
              have hB2 := hBY.trans ((DStep.of_but hs2).below hTwo.d)
              obtain ⟨hQ3, hs3⟩ := hQ2.fuse hxo.i63.1 hxo.i63.2
              obtain ⟨X4, hX4⟩ : ∃ X, X2.setCell ⟨pq, 2, none⟩ (.int .i64 x.i) = X := ⟨_, rfl⟩
              rw [hX4] at hQ3 hs3
              have hT4 : Two X4 w.heap.size (w.heap.size + 1) w.heap.size pq Bq v vq (s.fuseTo x.i) x.i := Two.stepQ (s := s) (F := F) hD2 dis2 hQ3 hs3
              have hB4 := hB2.trans (RStep.below hQ2 hs3)
              have y1' : X2.cell? ⟨wr.heap.size, 1, none⟩ = some (.int .i64 x.i) := (World.cell?_of_block (a := ⟨wr.heap.size, 1, none⟩) (hs2.block wr.heap.size (by omega) (fun e => by have := hGd _ (.inl e); omega))).trans y1
              obtain ⟨hbq, u0, u1, u2, u3, u4, ufr⟩ := hQ2.hds
              have hcd : (s.fuseTo x.i).done = s.done := rfl
              have hcl : (s.fuseTo x.i).lo.length = s.lo.length := rfl
              obtain ⟨s2, hs2e⟩ : ∃ s2, s.fuseTo x.i = s2 := ⟨_, rfl⟩
              rw [hs2e] at hT4 hcd hcl
              clear hs2e dis2 hD2 hQ3 hs3 hs2 hQ2 hfu u0 u1 u3 u4 y1 y3 hTwo
              go_upto_region 25 with (fail)
              try rw [hX4]
              clear hX4 u2 ufr hbq y1'
              have hnw := newest_any hT4.d (by omega)
              have hrn := fun W (hb : Below X4.heap.size X4 W) => rnewest_any (hT4.q.below hb) (by omega)
              unfold dp at hnw hrn
              obtain ⟨NS, hNS⟩ : ∃ s, s2.newest = s := ⟨_, rfl⟩
              have oN : NS.Ok := by rw [← hNS]; exact newest_ok hT4.d.ok
              obtain ⟨NE, hNE⟩ : ∃ s, s2.newestE = s := ⟨_, rfl⟩
              rw [hNS, hNE] at hnw hrn
              have iN := sp_info oN
              have zN := sp_sizes sp0_ok oN
              have hsN := fun w => sp_same oN w
              unfold spv at hnw hrn
              clear hNS hNE
              go_wp2_with fail
              refine Calls.mono hnw ?_
              rintro e X5 ⟨rfl, hb5⟩
              obtain ⟨Y5, hY, a11, bY5⟩ := newRow X5 sp0.cells.toArray NS.cells.toArray 38
              have hz5 := hb5.size
              have hbX5 := hb5.trans (bY5.mono hz5)
              have hrn2 := hrn Y5 hbX5
              go_upto_region 26 with (first
                | (refine wpList_new rfl spZ rfl ?_)
                | (refine wpList_store_row rfl 38 (.tmp 11) (.tmp 102) rfl _ NS.cells.toArray rfl rfl _ sp0.cells.toArray (heap_alloc_new _ _) iN zN (all_oneCell_toArray (one_sp _)) ?_)
                | fail)
              try rw [hY]
              clear hY hnw hrn
              go_wp2_with fail
              refine Calls.mono hrn2 ?_
              rintro e X6 ⟨rfl, hb6⟩
              obtain ⟨Y6, hY, a13, bY6⟩ := newRow X6 sp0.cells.toArray NS.cells.toArray 38
              have hz6 := hb6.size
              have a112 := bBlk bY6 (by have := (Array.getElem?_eq_some_iff.1 a11).1; omega) (bBlk hb6 (Array.getElem?_eq_some_iff.1 a11).1 a11)
              have hbX6 := hbX5.trans ((hb6.trans (bY6.mono hz6)).mono hbX5.size)
              go_upto_region 27 with (first
                | (refine wpList_new rfl spZ rfl ?_)
                | (refine wpList_store_row rfl 38 (.tmp 13) (.tmp 107) rfl _ NS.cells.toArray rfl rfl _ sp0.cells.toArray (heap_alloc_new _ _) iN zN (all_oneCell_toArray (one_sp _)) ?_)
                | fail)
              try rw [hY]
              clear hY hrn2 a11
              refine wp_region_lit ?_
              refine wpList_load_row rfl 38 (.tmp 11) rfl _ rfl _ NS.cells.toArray (0, 0) _ a112 Try.underlying38 rfl iN ?_
              (try simp only [Act.put, List.setIfInBounds_toArray, List.set_cons_zero, List.set_cons_succ])
              refine wpList_load_row rfl 38 (.tmp 13) rfl _ rfl _ NS.cells.toArray (0, 0) _ a13 Try.underlying38 rfl iN ?_
              (try simp only [Act.put, List.setIfInBounds_toArray, List.set_cons_zero, List.set_cons_succ])
              go_wp2_with fail
              go_roundw
              case rel => exact ⟨k + 1, s2, _, _, _, by go_num, by omega, by omega, by omega, hT4.below hbX6, hB4.trans (hbX6.mono hB4.size)⟩
              case measure => simp [intOf]; omega
            ·
              clear hxsY yS yB yb y1 y3
              go_upto_region 25 with (fail)
              obtain ⟨X4, rfl⟩ : ∃ X, X = Y := ⟨_, rfl⟩
              have hT4 := hTwo
              have hB4 := hBY
              have hs2e : ∃ s2, s = s2 := ⟨_, rfl⟩
              clear hTwo
              obtain ⟨s2, hs2e⟩ := hs2e
              have hcd : s.done = s2.done := by rw [hs2e]
              have hcl : s.lo.length = s2.lo.length := by rw [hs2e]
              rw [hs2e] at hT4
              clear hs2e
              have hnw := newest_any hT4.d (by omega)
              have hrn := fun W (hb : Below X4.heap.size X4 W) => rnewest_any (hT4.q.below hb) (by omega)
              unfold dp at hnw hrn
              obtain ⟨NS, hNS⟩ : ∃ s, s2.newest = s := ⟨_, rfl⟩
              have oN : NS.Ok := by rw [← hNS]; exact newest_ok hT4.d.ok
              obtain ⟨NE, hNE⟩ : ∃ s, s2.newestE = s := ⟨_, rfl⟩
              rw [hNS, hNE] at hnw hrn
              have iN := sp_info oN
              have zN := sp_sizes sp0_ok oN
              have hsN := fun w => sp_same oN w
              unfold spv at hnw hrn
              clear hNS hNE
              go_wp2_with fail
              refine Calls.mono hnw ?_
              rintro e X5 ⟨rfl, hb5⟩
              obtain ⟨Y5, hY, a11, bY5⟩ := newRow X5 sp0.cells.toArray NS.cells.toArray 38
              have hz5 := hb5.size
              have hbX5 := hb5.trans (bY5.mono hz5)
              have hrn2 := hrn Y5 hbX5
              go_upto_region 26 with (first
                | (refine wpList_new rfl spZ rfl ?_)
                | (refine wpList_store_row rfl 38 (.tmp 11) (.tmp 102) rfl _ NS.cells.toArray rfl rfl _ sp0.cells.toArray (heap_alloc_new _ _) iN zN (all_oneCell_toArray (one_sp _)) ?_)
                | fail)
              try rw [hY]
              clear hY hnw hrn
              go_wp2_with fail
              refine Calls.mono hrn2 ?_
              rintro e X6 ⟨rfl, hb6⟩
              obtain ⟨Y6, hY, a13, bY6⟩ := newRow X6 sp0.cells.toArray NS.cells.toArray 38
              have hz6 := hb6.size
              have a112 := bBlk bY6 (by have := (Array.getElem?_eq_some_iff.1 a11).1; omega) (bBlk hb6 (Array.getElem?_eq_some_iff.1 a11).1 a11)
              have hbX6 := hbX5.trans ((hb6.trans (bY6.mono hz6)).mono hbX5.size)
              go_upto_region 27 with (first
                | (refine wpList_new rfl spZ rfl ?_)
                | (refine wpList_store_row rfl 38 (.tmp 13) (.tmp 107) rfl _ NS.cells.toArray rfl rfl _ sp0.cells.toArray (heap_alloc_new _ _) iN zN (all_oneCell_toArray (one_sp _)) ?_)
                | fail)
              try rw [hY]
              clear hY hrn2 a11
              refine wp_region_lit ?_
              refine wpList_load_row rfl 38 (.tmp 11) rfl _ rfl _ NS.cells.toArray (0, 0) _ a112 Try.underlying38 rfl iN ?_
              (try simp only [Act.put, List.setIfInBounds_toArray, List.set_cons_zero, List.set_cons_succ])
              refine wpList_load_row rfl 38 (.tmp 13) rfl _ rfl _ NS.cells.toArray (0, 0) _ a13 Try.underlying38 rfl iN ?_
              (try simp only [Act.put, List.setIfInBounds_toArray, List.set_cons_zero, List.set_cons_succ])
              go_wp2_with fail
              go_roundw
              case rel => exact ⟨k + 1, s2, _, _, _, by go_num, by omega, by omega, by omega, hT4.below hbX6, hB4.trans (hbX6.mono hB4.size)⟩
              case measure => simp [intOf]; omega
    · obtain rfl : k = l.length := by omega
      clear hTwo
      go_wp2_with fail
      refine (wakes07_any _).mono ?_
      rintro e W2 ⟨rfl, hb2⟩
      go_wp2
      go_ret
      exact Ret.mk rfl (hB.trans (hb2.mono hB.size))

set_option maxHeartbeats 16000000 in
set_option maxRecDepth 100000 in
theorem superPlays_none (n : Int) (hn : n < 16 ∨ 128 < n) {w : World} {A : Option Addr} {c : Nat} {l : List St7} (hs : Sl w w.heap.size 182 A l.length (l.flatMap St7.enc')) (hc : l.length ≤ c) (hm : c ≤ maxLen) (hok : ∀ x ∈ l, x.Ok w) (ht : fair7 l = true) :
    Calls Try.prog 3 #[.int .i64 n, .slice A l.length c] w (Ret w (.bool true)) := by
  have hm2 : l.length ≤ 9223372036854775807 := by simp only [maxLen] at hm; omega
  have hfair := fair7_any (w := w) hs hok hc hm
  rw [ht] at hfair
  have h60 : l.length ≤ 60 ∧ ∀ x ∈ l, x.keep.length ≤ 300 := by
    unfold fair7 at ht
    simp at ht
    exact ⟨ht.2, ht.1⟩
  obtain ⟨hl2, hkp⟩ := h60
  clear ht
  have hnew := new_arg n hn w
  have hrnew := rnew_arg n hn w
  clear hn
  go_enter Try.func3, Try.ntmps3
  go_wp2_with fail
  refine hfair.mono ?_
  rintro e _ ⟨rfl, rfl⟩
  clear hfair
  go_wp2_with fail
  refine hnew.mono ?_
  rintro e _ ⟨rfl, rfl⟩
  go_wp2_with fail
  refine hrnew.mono ?_
  rintro e _ ⟨rfl, rfl⟩
  clear hnew hrnew
  go_wp2_with fail
  go_loopw [9] (fun i wr => ∃ k : Nat, i = .int .i64 k ∧ k ≤ l.length ∧ Below w.heap.size w wr) (fun i _ => l.length - (intOf i).toNat)
  case atStart => exact ⟨0, rfl, by omega, Below.refl _ _⟩
  case round =>
    obtain ⟨k, rfl, hk, hB⟩ := hrel
    by_cases hlt : k < l.length
    ·
      obtain ⟨x, hx⟩ : ∃ x, l[k]? = some x := ⟨_, List.getElem?_eq_getElem hlt⟩
      have hxm := List.mem_of_getElem? hx
      have hxo := hok x hxm
      obtain ⟨b, o, rfl, hb, hrow⟩ := st7_at (hs.below hB) hx hxo
      have hxk := hkp x hxm
      have g1 : (k : Int) < l.length := by omega
      have hzr := hB.size
      have hxl : (Try.prog.info? 43).map (·.size) = some x.enc.length := by rw [hxo.len]; kernel_rfl
      have hxz : zSt7.toArray.size = x.enc.toArray.size := by rw [List.size_toArray, List.size_toArray, hxo.len, zSt7_len]
      have hxi : (Try.prog.info? 43).map (·.size) = some x.enc.toArray.size := by rw [List.size_toArray]; exact hxl
      clear hx hxm
      obtain ⟨Y, hY, yb, hbY⟩ := newRow wr zSt7.toArray x.enc.toArray 43
      have hYx := StAt7.of hxo yb
      go_upto_region 8 with (fail)
      refine wp_region_lit ?_
      iterate 9 (first | go_guarded | go_step)
      refine wpList_load_mid rfl 43 (.tmp 37) rfl b (o + k * 182) rfl x.enc _ hrow Try.underlying43 rfl hxl ?_
      (try simp only [Act.put, List.setIfInBounds_toArray, List.set_cons_zero, List.set_cons_succ])
      refine wpList_new rfl st7Z rfl ?_
      (try simp only [Act.put, List.setIfInBounds_toArray, List.set_cons_zero, List.set_cons_succ])
      refine wpList_store_row rfl 43 (.tmp 10) (.tmp 38) rfl _ x.enc.toArray rfl rfl _ zSt7.toArray (heap_alloc_new _ _) hxi hxz (all_oneCell_toArray (st7_one x)) ?_
      (try simp only [Act.put, List.setIfInBounds_toArray, List.set_cons_zero, List.set_cons_succ])
      go_upto_region 9 with (fail)
      try rw [hY]
      have hBY := hB.trans (hbY.mono hzr)
      have hGY : wr.heap.size < Y.heap.size := (Array.getElem?_eq_some_iff.1 yb).1
      have hxsY := hxo.keep.below (B := w.heap.size) hBY
      have lS := sp_len hxo.s
      have lB := bk_len hxo.b
      clear hY hrow hxl hxz hxi yb
      obtain ⟨yb, y0, y1, yS, yB, y3⟩ := hYx
      clear hB hbY
      by_cases k0 : x.kind = 0
      ·
        rw [k0] at y0
        let S : World → Prop := fun w' => w'.rangeAt wr.heap.size 2 x.s.cells
        have hS : ∀ w', w'.heap[wr.heap.size]? = Y.heap[wr.heap.size]? → S w' := fun w' h j u hj => (World.cell?_of_block (a := ⟨wr.heap.size, 2 + j, none⟩) h).trans (yS j u hj)
        have HS := Lib.hid hS
        have hS0 : S Y.drew := hS _ rfl
        have hBd : Below w.heap.size w Y.drew := hBY.trans ((Below.refl _ _).drew)
        have hwr := fun W => sput_nil hxo.s W
        have hwq := fun W => rput_nil hxo.s W
        unfold spv at hwr hwq
        clear hS y3 yb yB hxsY
        go_upto_region 11 with (fail)
        refine wp_region_held (S := S) (by kernel_rfl) ?_
        change wpAnyH _ _ _ _ S _ _ _ Y.drew
        refine wpAnyH_take (i := 0) (oi := ?oi_11) (v := ?v_11) ?ho_11 ?h1_11 ?h2_11 ?h3_11 ?hq_11 (Or.inl ⟨?hw_11, ?hy_11⟩) ?hs_11 ?rest_11; (case h2_11 => kernel_rfl); (case h3_11 => kernel_rfl); (case ho_11 => (simp only [List.getElem?_toArray, List.getElem?_cons_zero, List.getElem?_cons_succ]; rfl)); (case h1_11 => kernel_rfl); (case hq_11 => exact fun _ _ _ h => h); (case hw_11 => rfl); (case hy_11 => (intro w' hSw; (try simp only [S] at hSw); go_simp; (try with_reducible rfl))); (case hs_11 => assumption); (try simp only [Act.put, List.setIfInBounds_toArray, List.set_cons_zero, List.set_cons_succ])
        refine wpAnyH_take (i := 1) (oi := ?oi_12) (v := ?v_12) ?ho_12 ?h1_12 ?h2_12 ?h3_12 ?hq_12 (Or.inl ⟨?hw_12, ?hy_12⟩) ?hs_12 ?rest_12; (case h2_12 => kernel_rfl); (case h3_12 => kernel_rfl); (case ho_12 => (simp only [List.getElem?_toArray, List.getElem?_cons_zero, List.getElem?_cons_succ]; rfl)); (case h1_12 => kernel_rfl); (case hq_12 => exact fun _ _ _ h => h); (case hw_12 => rfl); (case hy_12 => (intro w' hSw; (try simp only [S] at hSw); go_simp; (try with_reducible rfl))); (case hs_12 => assumption); (try simp only [Act.put, List.setIfInBounds_toArray, List.set_cons_zero, List.set_cons_succ])
        refine wpAnyH_take (i := 2) (oi := ?oi_23) (v := ?v_23) ?ho_23 ?h1_23 ?h2_23 ?h3_23 ?hq_23 (Or.inl ⟨?hw_23, ?hy_23⟩) ?hs_23 ?rest_23; (case h2_23 => kernel_rfl); (case h3_23 => kernel_rfl); (case ho_23 => (simp only [List.getElem?_toArray, List.getElem?_cons_zero, List.getElem?_cons_succ]; rfl)); (case h1_23 => kernel_rfl); (case hq_23 => exact fun _ _ _ h => h); (case hw_23 => rfl); (case hy_23 => (intro w' hSw; refine exec_load_row (x := .tmp 44) ?_ ?_ hSw Try.underlying38 ?_ lS <;> rfl)); (case hs_23 => assumption); (try simp only [Act.put, List.setIfInBounds_toArray, List.set_cons_zero, List.set_cons_succ])
        refine wpAnyH_take (i := 4) (oi := ?oi_13) (v := ?v_13) ?ho_13 ?h1_13 ?h2_13 ?h3_13 ?hq_13 (Or.inl ⟨?hw_13, ?hy_13⟩) ?hs_13 ?rest_13; (case h2_13 => kernel_rfl); (case h3_13 => kernel_rfl); (case ho_13 => (simp only [List.getElem?_toArray, List.getElem?_cons_zero, List.getElem?_cons_succ]; rfl)); (case h1_13 => kernel_rfl); (case hq_13 => exact fun _ _ _ h => h); (case hw_13 => rfl); (case hy_13 => (intro w' hSw; (try simp only [S] at hSw); go_simp; (try with_reducible rfl))); (case hs_13 => assumption); (try simp only [Act.put, List.setIfInBounds_toArray, List.set_cons_zero, List.set_cons_succ])
        refine wpAnyH_take (i := 5) (oi := ?oi_14) (v := ?v_14) ?ho_14 ?h1_14 ?h2_14 ?h3_14 ?hq_14 (Or.inl ⟨?hw_14, ?hy_14⟩) ?hs_14 ?rest_14; (case h2_14 => kernel_rfl); (case h3_14 => kernel_rfl); (case ho_14 => (simp only [List.getElem?_toArray, List.getElem?_cons_zero, List.getElem?_cons_succ]; rfl)); (case h1_14 => kernel_rfl); (case hq_14 => exact fun _ _ _ h => h); (case hw_14 => rfl); (case hy_14 => (intro w' hSw; (try simp only [S] at hSw); go_simp; (try with_reducible rfl))); (case hs_14 => assumption); (try simp only [Act.put, List.setIfInBounds_toArray, List.set_cons_zero, List.set_cons_succ])
        refine wpAnyH_take (i := 6) (oi := ?oi_24) (v := ?v_24) ?ho_24 ?h1_24 ?h2_24 ?h3_24 ?hq_24 (Or.inl ⟨?hw_24, ?hy_24⟩) ?hs_24 ?rest_24; (case h2_24 => kernel_rfl); (case h3_24 => kernel_rfl); (case ho_24 => (simp only [List.getElem?_toArray, List.getElem?_cons_zero, List.getElem?_cons_succ]; rfl)); (case h1_24 => kernel_rfl); (case hq_24 => exact fun _ _ _ h => h); (case hw_24 => rfl); (case hy_24 => (intro w' hSw; refine exec_load_row (x := .tmp 48) ?_ ?_ hSw Try.underlying38 ?_ lS <;> rfl)); (case hs_24 => assumption); (try simp only [Act.put, List.setIfInBounds_toArray, List.set_cons_zero, List.set_cons_succ])
        clear y1 yS
        refine wpAnyH_ready (rs := [3]) (by kernel_rfl) (by simp) (AllReadyH.cons (o := ?oo3_30) ?hoo3_30 (fun K hK => ?steponly30) AllReadyH.nil); (case hoo3_30 => (simp only [List.getElem?_toArray, List.getElem?_cons_zero, List.getElem?_cons_succ]; rfl))
        go_simp
        refine (hwr _).mono ?_
        rintro e X2 ⟨rfl, hb2⟩
        have hB2 := hBd.trans (hb2.mono hBd.size)
        have e2 : X2.heap[wr.heap.size]? = Y.heap[wr.heap.size]? := hb2.block _ hGY
        have hz2 : Y.heap.size ≤ X2.heap.size := hb2.size
        refine hK.out _ _ (HS.out _ e2) (fun _ => ?_)
        clear hK K
        (try simp only [Act.put, List.setIfInBounds_toArray, List.set_cons_zero, List.set_cons_succ])
        refine wpAnyH_ready (rs := [7]) (by kernel_rfl) (by simp) (AllReadyH.cons (o := ?oo7_31) ?hoo7_31 (fun K hK => ?steponly31) AllReadyH.nil); (case hoo7_31 => (simp only [List.getElem?_toArray, List.getElem?_cons_zero, List.getElem?_cons_succ]; rfl))
        go_simp
        refine (hwq _).mono ?_
        rintro e X4 ⟨rfl, hb4⟩
        have hB4 := hB2.trans (hb4.mono hB2.size)
        have e4 : X4.heap[wr.heap.size]? = Y.heap[wr.heap.size]? := (hb4.block _ (by omega)).trans e2
        refine hK.out _ _ (HS.out _ e4) (fun _ => ?_)
        clear hK K
        (try simp only [Act.put, List.setIfInBounds_toArray, List.set_cons_zero, List.set_cons_succ])
        clear hwr hwq hS0 e2 e4
        refine wpAnyH_take (i := 8) (oi := ?oi_15) (v := ?v_15) ?ho_15 ?h1_15 ?h2_15 ?h3_15 ?hq_15 (Or.inl ⟨?hw_15, ?hy_15⟩) ?hs_15 ?rest_15; (case h2_15 => kernel_rfl); (case h3_15 => kernel_rfl); (case ho_15 => (simp only [List.getElem?_toArray, List.getElem?_cons_zero, List.getElem?_cons_succ]; rfl)); (case h1_15 => kernel_rfl); (case hq_15 => exact fun _ _ _ h => h); (case hw_15 => rfl); (case hy_15 => (intro w' hSw; (try simp only [S] at hSw); go_simp; (try with_reducible rfl))); (case hs_15 => assumption); (try simp only [Act.put, List.setIfInBounds_toArray, List.set_cons_zero, List.set_cons_succ])
        refine wpAnyH_done (by kernel_rfl) ?_ _
        have hnw := newest_nil X4
        have hrn := fun W (_ : Below X4.heap.size X4 W) => rnewest_nil W
        obtain ⟨NS, hNS⟩ : ∃ s, sp0 = s := ⟨_, rfl⟩
        have oN : NS.Ok := by rw [← hNS]; exact sp0_ok
        rw [hNS] at hnw hrn
        have iN := sp_info oN
        have zN := sp_sizes sp0_ok oN
        have hsN := fun w => sp_same oN w
        unfold spv at hnw hrn
        clear hNS
        go_wp2_with fail
        refine Calls.mono hnw ?_
        rintro e X5 ⟨rfl, hb5⟩
        obtain ⟨Y5, hY, a11, bY5⟩ := newRow X5 sp0.cells.toArray NS.cells.toArray 38
        have hz5 := hb5.size
        have hbX5 := hb5.trans (bY5.mono hz5)
        have hrn2 := hrn Y5 hbX5
        go_upto_region 26 with (first
          | (refine wpList_new rfl spZ rfl ?_)
          | (refine wpList_store_row rfl 38 (.tmp 11) (.tmp 102) rfl _ NS.cells.toArray rfl rfl _ sp0.cells.toArray (heap_alloc_new _ _) iN zN (all_oneCell_toArray (one_sp _)) ?_)
          | fail)
        try rw [hY]
        clear hY hnw hrn
        go_wp2_with fail
        refine Calls.mono hrn2 ?_
        rintro e X6 ⟨rfl, hb6⟩
        obtain ⟨Y6, hY, a13, bY6⟩ := newRow X6 sp0.cells.toArray NS.cells.toArray 38
        have hz6 := hb6.size
        have a112 := bBlk bY6 (by have := (Array.getElem?_eq_some_iff.1 a11).1; omega) (bBlk hb6 (Array.getElem?_eq_some_iff.1 a11).1 a11)
        have hbX6 := hbX5.trans ((hb6.trans (bY6.mono hz6)).mono hbX5.size)
        go_upto_region 27 with (first
          | (refine wpList_new rfl spZ rfl ?_)
          | (refine wpList_store_row rfl 38 (.tmp 13) (.tmp 107) rfl _ NS.cells.toArray rfl rfl _ sp0.cells.toArray (heap_alloc_new _ _) iN zN (all_oneCell_toArray (one_sp _)) ?_)
          | fail)
        try rw [hY]
        clear hY hrn2 a11
        refine wp_region_lit ?_
        refine wpList_load_row rfl 38 (.tmp 11) rfl _ rfl _ NS.cells.toArray (0, 0) _ a112 Try.underlying38 rfl iN ?_
        (try simp only [Act.put, List.setIfInBounds_toArray, List.set_cons_zero, List.set_cons_succ])
        refine wpList_load_row rfl 38 (.tmp 13) rfl _ rfl _ NS.cells.toArray (0, 0) _ a13 Try.underlying38 rfl iN ?_
        (try simp only [Act.put, List.setIfInBounds_toArray, List.set_cons_zero, List.set_cons_succ])
        go_wp2_with fail
        go_roundw
        case rel => exact ⟨k + 1, by go_num, by omega, hB4.trans (hbX6.mono hB4.size)⟩
        case measure => simp [intOf]; omega
      · by_cases k1 : x.kind = 1
        ·
          rw [k1] at y0
          have hwr := write_nil x.i x.b Y
          clear hxsY y3
          go_upto_region 25 with (first
            | (refine wpList_load_mid rfl 40 (.tmp 57) rfl wr.heap.size 53 rfl (bvs x.b) _ yB Try.underlying40 rfl lB ?_)
            | (go_at_call 21; refine Calls.mono hwr ?_; rintro e X4 ⟨rfl, hb4⟩)
            | fail)
          have hB4 := hBY.trans (hb4.mono hBY.size)
          clear hwr yB y1 yS yb
          have hnw := newest_nil X4
          have hrn := fun W (_ : Below X4.heap.size X4 W) => rnewest_nil W
          obtain ⟨NS, hNS⟩ : ∃ s, sp0 = s := ⟨_, rfl⟩
          have oN : NS.Ok := by rw [← hNS]; exact sp0_ok
          rw [hNS] at hnw hrn
          have iN := sp_info oN
          have zN := sp_sizes sp0_ok oN
          have hsN := fun w => sp_same oN w
          unfold spv at hnw hrn
          clear hNS
          go_wp2_with fail
          refine Calls.mono hnw ?_
          rintro e X5 ⟨rfl, hb5⟩
          obtain ⟨Y5, hY, a11, bY5⟩ := newRow X5 sp0.cells.toArray NS.cells.toArray 38
          have hz5 := hb5.size
          have hbX5 := hb5.trans (bY5.mono hz5)
          have hrn2 := hrn Y5 hbX5
          go_upto_region 26 with (first
            | (refine wpList_new rfl spZ rfl ?_)
            | (refine wpList_store_row rfl 38 (.tmp 11) (.tmp 102) rfl _ NS.cells.toArray rfl rfl _ sp0.cells.toArray (heap_alloc_new _ _) iN zN (all_oneCell_toArray (one_sp _)) ?_)
            | fail)
          try rw [hY]
          clear hY hnw hrn
          go_wp2_with fail
          refine Calls.mono hrn2 ?_
          rintro e X6 ⟨rfl, hb6⟩
          obtain ⟨Y6, hY, a13, bY6⟩ := newRow X6 sp0.cells.toArray NS.cells.toArray 38
          have hz6 := hb6.size
          have a112 := bBlk bY6 (by have := (Array.getElem?_eq_some_iff.1 a11).1; omega) (bBlk hb6 (Array.getElem?_eq_some_iff.1 a11).1 a11)
          have hbX6 := hbX5.trans ((hb6.trans (bY6.mono hz6)).mono hbX5.size)
          go_upto_region 27 with (first
            | (refine wpList_new rfl spZ rfl ?_)
            | (refine wpList_store_row rfl 38 (.tmp 13) (.tmp 107) rfl _ NS.cells.toArray rfl rfl _ sp0.cells.toArray (heap_alloc_new _ _) iN zN (all_oneCell_toArray (one_sp _)) ?_)
            | fail)
          try rw [hY]
          clear hY hrn2 a11
          refine wp_region_lit ?_
          refine wpList_load_row rfl 38 (.tmp 11) rfl _ rfl _ NS.cells.toArray (0, 0) _ a112 Try.underlying38 rfl iN ?_
          (try simp only [Act.put, List.setIfInBounds_toArray, List.set_cons_zero, List.set_cons_succ])
          refine wpList_load_row rfl 38 (.tmp 13) rfl _ rfl _ NS.cells.toArray (0, 0) _ a13 Try.underlying38 rfl iN ?_
          (try simp only [Act.put, List.setIfInBounds_toArray, List.set_cons_zero, List.set_cons_succ])
          go_wp2_with fail
          go_roundw
          case rel => exact ⟨k + 1, by go_num, by omega, hB4.trans (hbX6.mono hB4.size)⟩
          case measure => simp [intOf]; omega
        · by_cases k2 : x.kind = 2
          ·
            rw [k2] at y0
            let S : World → Prop := fun w' => w'.cell? ⟨wr.heap.size, 1, none⟩ = some (.int .i64 x.i) ∧ w'.cell? ⟨wr.heap.size, 181, none⟩ = some (.slice x.A x.keep.length x.c)
            have hS : ∀ w', w'.heap[wr.heap.size]? = Y.heap[wr.heap.size]? → S w' := fun w' h => ⟨(World.cell?_of_block (a := ⟨wr.heap.size, 1, none⟩) h).trans y1, (World.cell?_of_block (a := ⟨wr.heap.size, 181, none⟩) h).trans y3⟩
            have HS := Lib.hid hS
            have hS0 : S Y.drew := hS _ rfl
            obtain ⟨W1, hW1⟩ : ∃ W1, (Y.alloc (.cells #[] 5)).drew = W1 := ⟨_, rfl⟩
            have hb1 : Below Y.heap.size Y W1 := by rw [← hW1]; exact ((Below.refl _ _).alloc (Nat.le_refl _) _).drew
            have e1 : W1.heap[wr.heap.size]? = Y.heap[wr.heap.size]? := hb1.block _ hGY
            have hrow0 : W1.ownsRow Y.heap.size 5 1 (.slice (some ⟨Y.heap.size, 0, none⟩) 0 0) 0 [] := by rw [← hW1]; exact (own_none' Y Y.heap.size 5 1 (Nat.le_refl _)).drew
            have hxs1 := hxsY.below (hb1.mono (by omega))
            have hz1 : Y.heap.size + 1 ≤ W1.heap.size := by rw [← hW1]; show _ ≤ (Y.alloc _).heap.size; simp
            have hxc := hxo.kc
            have hxcm := hxo.cm
            obtain ⟨A2, c2, W2, hrun, hrow2, hg2, hat2⟩ := run_app (P := Try.prog) W1 (ty := 41) (t := 41) Try.underlying41 elemC hrow0 hxs1 (c := x.c) (oneCell_bvs _) (by simp only [maxLen]; omega) (by omega) (by omega)
            rw [Nat.zero_add, List.nil_append] at hrow2
            rw [Nat.zero_add] at hrun hat2
            have hb2 : Below Y.heap.size W1 W2 := (Below.refl _ _).grown hg2 (by omega) (fun j hj => by simp [Value.ownBlock] at hj; omega)
            have hbY2 := hb1.trans hb2
            have hB2 := hBY.trans (hbY2.mono (by omega))
            have e2 : W2.heap[wr.heap.size]? = Y.heap[wr.heap.size]? := hbY2.block _ hGY
            have hcr := crash_nil W2 (.slice A2 x.keep.length c2) x.i
            have hS1 := HS.out _ e1
            have hS2 := HS.out _ e2
            have HR := Lib.hid (And.intro hB2 e2)
            clear hS yS yB yb hxsY hxs1 hrow0 hrow2 hg2 hat2 hB2 e2 e1 hb1 hb2 hbY2 hz1 hxc hxcm
            go_upto_region 18 with (fail)
            refine wp_region_held (S := S) (by kernel_rfl) ?_
            change wpAnyH _ _ _ _ S _ _ _ Y.drew
            refine wpAnyH_take (i := 0) (oi := ?oi_16) (v := ?v_16) ?ho_16 ?h1_16 ?h2_16 ?h3_16 ?hq_16 (Or.inl ⟨?hw_16, ?hy_16⟩) ?hs_16 ?rest_16; (case h2_16 => kernel_rfl); (case h3_16 => kernel_rfl); (case ho_16 => (simp only [List.getElem?_toArray, List.getElem?_cons_zero, List.getElem?_cons_succ]; rfl)); (case h1_16 => kernel_rfl); (case hq_16 => exact fun _ _ _ h => h); (case hw_16 => rfl); (case hy_16 => (intro w' hSw; (try simp only [S] at hSw); go_simp; (try with_reducible rfl))); (case hs_16 => assumption); (try simp only [Act.put, List.setIfInBounds_toArray, List.set_cons_zero, List.set_cons_succ])
            refine wpAnyH_take (i := 2) (oi := ?oi_17) (v := ?v_17) ?ho_17 ?h1_17 ?h2_17 ?h3_17 ?hq_17 (Or.inl ⟨?hw_17, ?hy_17⟩) ?hs_17 ?rest_17; (case h2_17 => kernel_rfl); (case h3_17 => kernel_rfl); (case ho_17 => (simp only [List.getElem?_toArray, List.getElem?_cons_zero, List.getElem?_cons_succ]; rfl)); (case h1_17 => kernel_rfl); (case hq_17 => exact fun _ _ _ h => h); (case hw_17 => rfl); (case hy_17 => (intro w' hSw; (try simp only [S] at hSw); go_simp; (try with_reducible rfl))); (case hs_17 => assumption); (try simp only [Act.put, List.setIfInBounds_toArray, List.set_cons_zero, List.set_cons_succ])
            refine wpAnyH_take (i := 3) (oi := ?oi_18) (v := ?v_18) ?ho_18 ?h1_18 ?h2_18 ?h3_18 ?hq_18 (Or.inl ⟨?hw_18, ?hy_18⟩) ?hs_18 ?rest_18; (case h2_18 => kernel_rfl); (case h3_18 => kernel_rfl); (case ho_18 => (simp only [List.getElem?_toArray, List.getElem?_cons_zero, List.getElem?_cons_succ]; rfl)); (case h1_18 => kernel_rfl); (case hq_18 => exact fun _ _ _ h => h); (case hw_18 => rfl); (case hy_18 => (intro w' hSw; (try simp only [S] at hSw); go_simp; (try with_reducible rfl))); (case hs_18 => assumption); (try simp only [Act.put, List.setIfInBounds_toArray, List.set_cons_zero, List.set_cons_succ])
            refine wpAnyH_take (i := 5) (oi := ?oi_19) (v := ?v_19) ?ho_19 ?h1_19 ?h2_19 ?h3_19 ?hq_19 (Or.inl ⟨?hw_19, ?hy_19⟩) ?hs_19 ?rest_19; (case h2_19 => kernel_rfl); (case h3_19 => kernel_rfl); (case ho_19 => (simp only [List.getElem?_toArray, List.getElem?_cons_zero, List.getElem?_cons_succ]; rfl)); (case h1_19 => kernel_rfl); (case hq_19 => exact fun _ _ _ h => h); (case hw_19 => rfl); (case hy_19 => (intro w' hSw; (try simp only [S] at hSw); go_simp; (try with_reducible rfl))); (case hs_19 => assumption); (try simp only [Act.put, List.setIfInBounds_toArray, List.set_cons_zero, List.set_cons_succ])
            refine wpAnyH_take (i := 6) (oi := ?oi_20) (v := ?v_20) ?ho_20 ?h1_20 ?h2_20 ?h3_20 ?hq_20 (Or.inl ⟨?hw_20, ?hy_20⟩) ?hs_20 ?rest_20; (case h2_20 => kernel_rfl); (case h3_20 => kernel_rfl); (case ho_20 => (simp only [List.getElem?_toArray, List.getElem?_cons_zero, List.getElem?_cons_succ]; rfl)); (case h1_20 => kernel_rfl); (case hq_20 => exact fun _ _ _ h => h); (case hw_20 => rfl); (case hy_20 => (intro w' hSw; (try simp only [S] at hSw); go_simp; (try with_reducible rfl))); (case hs_20 => assumption); (try simp only [Act.put, List.setIfInBounds_toArray, List.set_cons_zero, List.set_cons_succ])
            clear y1 y3
            refine wpAnyH_ready (rs := [1]) (by kernel_rfl) (by simp) (AllReadyH.cons (o := ?oo1_32) ?hoo1_32 (fun K hK => ?steponly32) AllReadyH.nil); (case hoo1_32 => (simp only [List.getElem?_toArray, List.getElem?_cons_zero, List.getElem?_cons_succ]; rfl))
            go_simp
            refine hK.out _ _ hS1 (fun _ => ?_)
            clear hK K
            (try simp only [Act.put, List.setIfInBounds_toArray, List.set_cons_zero, List.set_cons_succ])
            refine wpAnyH_ready (rs := [4]) (by kernel_rfl) (by simp) (AllReadyH.cons (o := ?oo4_33) ?hoo4_33 (fun K hK => ?steponly33) AllReadyH.nil); (case hoo4_33 => (simp only [List.getElem?_toArray, List.getElem?_cons_zero, List.getElem?_cons_succ]; rfl))
            go_simp
            refine hK.out _ _ hS2 (fun _ => ?_)
            clear hK K
            (try simp only [Act.put, List.setIfInBounds_toArray, List.set_cons_zero, List.set_cons_succ])
            refine wpAnyH_ready (rs := [7]) (by kernel_rfl) (by simp) (AllReadyH.cons (o := ?oo7_34) ?hoo7_34 (fun K hK => ?steponly34) AllReadyH.nil); (case hoo7_34 => (simp only [List.getElem?_toArray, List.getElem?_cons_zero, List.getElem?_cons_succ]; rfl))
            go_simp
            refine hcr.mono ?_
            rintro e X4 ⟨rfl, hb3⟩
            have hB4 := HR.out.1.trans (hb3.mono HR.out.1.size)
            have e3 : X4.heap[wr.heap.size]? = Y.heap[wr.heap.size]? := (hb3.block _ (by have h := (Array.getElem?_eq_some_iff.1 (HR.out.2.trans (Array.getElem?_eq_getElem hGY))).1; omega)).trans HR.out.2
            refine hK.out _ _ (HS.out _ e3) (fun _ => ?_)
            clear hK K
            (try simp only [Act.put, List.setIfInBounds_toArray, List.set_cons_zero, List.set_cons_succ])
            refine wpAnyH_done (by kernel_rfl) ?_ _
            clear hcr e3 hS1 hS2 hS0 HR hrun hW1
            go_upto_region 25 with (fail)
            have hnw := newest_nil X4
            have hrn := fun W (_ : Below X4.heap.size X4 W) => rnewest_nil W
            obtain ⟨NS, hNS⟩ : ∃ s, sp0 = s := ⟨_, rfl⟩
            have oN : NS.Ok := by rw [← hNS]; exact sp0_ok
            rw [hNS] at hnw hrn
            have iN := sp_info oN
            have zN := sp_sizes sp0_ok oN
            have hsN := fun w => sp_same oN w
            unfold spv at hnw hrn
            clear hNS
            go_wp2_with fail
            refine Calls.mono hnw ?_
            rintro e X5 ⟨rfl, hb5⟩
            obtain ⟨Y5, hY, a11, bY5⟩ := newRow X5 sp0.cells.toArray NS.cells.toArray 38
            have hz5 := hb5.size
            have hbX5 := hb5.trans (bY5.mono hz5)
            have hrn2 := hrn Y5 hbX5
            go_upto_region 26 with (first
              | (refine wpList_new rfl spZ rfl ?_)
              | (refine wpList_store_row rfl 38 (.tmp 11) (.tmp 102) rfl _ NS.cells.toArray rfl rfl _ sp0.cells.toArray (heap_alloc_new _ _) iN zN (all_oneCell_toArray (one_sp _)) ?_)
              | fail)
            try rw [hY]
            clear hY hnw hrn
            go_wp2_with fail
            refine Calls.mono hrn2 ?_
            rintro e X6 ⟨rfl, hb6⟩
            obtain ⟨Y6, hY, a13, bY6⟩ := newRow X6 sp0.cells.toArray NS.cells.toArray 38
            have hz6 := hb6.size
            have a112 := bBlk bY6 (by have := (Array.getElem?_eq_some_iff.1 a11).1; omega) (bBlk hb6 (Array.getElem?_eq_some_iff.1 a11).1 a11)
            have hbX6 := hbX5.trans ((hb6.trans (bY6.mono hz6)).mono hbX5.size)
            go_upto_region 27 with (first
              | (refine wpList_new rfl spZ rfl ?_)
              | (refine wpList_store_row rfl 38 (.tmp 13) (.tmp 107) rfl _ NS.cells.toArray rfl rfl _ sp0.cells.toArray (heap_alloc_new _ _) iN zN (all_oneCell_toArray (one_sp _)) ?_)
              | fail)
            try rw [hY]
            clear hY hrn2 a11
            refine wp_region_lit ?_
            refine wpList_load_row rfl 38 (.tmp 11) rfl _ rfl _ NS.cells.toArray (0, 0) _ a112 Try.underlying38 rfl iN ?_
            (try simp only [Act.put, List.setIfInBounds_toArray, List.set_cons_zero, List.set_cons_succ])
            refine wpList_load_row rfl 38 (.tmp 13) rfl _ rfl _ NS.cells.toArray (0, 0) _ a13 Try.underlying38 rfl iN ?_
            (try simp only [Act.put, List.setIfInBounds_toArray, List.set_cons_zero, List.set_cons_succ])
            go_wp2_with fail
            go_roundw
            case rel => exact ⟨k + 1, by go_num, by omega, hB4.trans (hbX6.mono hB4.size)⟩
            case measure => simp [intOf]; omega
          · by_cases k3 : x.kind = 3
            ·
              rw [k3] at y0
              have hfu := fuse_nil Y x.i
              clear hxsY yS yB yb
              go_upto_region 25 with (first
                | (go_at_call 25; refine Calls.mono hfu ?_; rintro e X4 ⟨rfl, rfl⟩)
                | fail)
              obtain ⟨X4, hX4⟩ : ∃ X, Y = X := ⟨_, rfl⟩
              rw [hX4]
              rw [hX4] at hBY
              have hB4 := hBY
              clear hfu y1 y3
              have hnw := newest_nil X4
              have hrn := fun W (_ : Below X4.heap.size X4 W) => rnewest_nil W
              obtain ⟨NS, hNS⟩ : ∃ s, sp0 = s := ⟨_, rfl⟩
              have oN : NS.Ok := by rw [← hNS]; exact sp0_ok
              rw [hNS] at hnw hrn
              have iN := sp_info oN
              have zN := sp_sizes sp0_ok oN
              have hsN := fun w => sp_same oN w
              unfold spv at hnw hrn
              clear hNS
              go_wp2_with fail
              refine Calls.mono hnw ?_
              rintro e X5 ⟨rfl, hb5⟩
              obtain ⟨Y5, hY, a11, bY5⟩ := newRow X5 sp0.cells.toArray NS.cells.toArray 38
              have hz5 := hb5.size
              have hbX5 := hb5.trans (bY5.mono hz5)
              have hrn2 := hrn Y5 hbX5
              go_upto_region 26 with (first
                | (refine wpList_new rfl spZ rfl ?_)
                | (refine wpList_store_row rfl 38 (.tmp 11) (.tmp 102) rfl _ NS.cells.toArray rfl rfl _ sp0.cells.toArray (heap_alloc_new _ _) iN zN (all_oneCell_toArray (one_sp _)) ?_)
                | fail)
              try rw [hY]
              clear hY hnw hrn
              go_wp2_with fail
              refine Calls.mono hrn2 ?_
              rintro e X6 ⟨rfl, hb6⟩
              obtain ⟨Y6, hY, a13, bY6⟩ := newRow X6 sp0.cells.toArray NS.cells.toArray 38
              have hz6 := hb6.size
              have a112 := bBlk bY6 (by have := (Array.getElem?_eq_some_iff.1 a11).1; omega) (bBlk hb6 (Array.getElem?_eq_some_iff.1 a11).1 a11)
              have hbX6 := hbX5.trans ((hb6.trans (bY6.mono hz6)).mono hbX5.size)
              go_upto_region 27 with (first
                | (refine wpList_new rfl spZ rfl ?_)
                | (refine wpList_store_row rfl 38 (.tmp 13) (.tmp 107) rfl _ NS.cells.toArray rfl rfl _ sp0.cells.toArray (heap_alloc_new _ _) iN zN (all_oneCell_toArray (one_sp _)) ?_)
                | fail)
              try rw [hY]
              clear hY hrn2 a11
              refine wp_region_lit ?_
              refine wpList_load_row rfl 38 (.tmp 11) rfl _ rfl _ NS.cells.toArray (0, 0) _ a112 Try.underlying38 rfl iN ?_
              (try simp only [Act.put, List.setIfInBounds_toArray, List.set_cons_zero, List.set_cons_succ])
              refine wpList_load_row rfl 38 (.tmp 13) rfl _ rfl _ NS.cells.toArray (0, 0) _ a13 Try.underlying38 rfl iN ?_
              (try simp only [Act.put, List.setIfInBounds_toArray, List.set_cons_zero, List.set_cons_succ])
              go_wp2_with fail
              go_roundw
              case rel => exact ⟨k + 1, by go_num, by omega, hB4.trans (hbX6.mono hB4.size)⟩
              case measure => simp [intOf]; omega
            ·
              clear hxsY yS yB yb y1 y3
              go_upto_region 25 with (fail)
              obtain ⟨X4, hX4⟩ : ∃ X, Y = X := ⟨_, rfl⟩
              rw [hX4]
              rw [hX4] at hBY
              have hB4 := hBY
              have hnw := newest_nil X4
              have hrn := fun W (_ : Below X4.heap.size X4 W) => rnewest_nil W
              obtain ⟨NS, hNS⟩ : ∃ s, sp0 = s := ⟨_, rfl⟩
              have oN : NS.Ok := by rw [← hNS]; exact sp0_ok
              rw [hNS] at hnw hrn
              have iN := sp_info oN
              have zN := sp_sizes sp0_ok oN
              have hsN := fun w => sp_same oN w
              unfold spv at hnw hrn
              clear hNS
              go_wp2_with fail
              refine Calls.mono hnw ?_
              rintro e X5 ⟨rfl, hb5⟩
              obtain ⟨Y5, hY, a11, bY5⟩ := newRow X5 sp0.cells.toArray NS.cells.toArray 38
              have hz5 := hb5.size
              have hbX5 := hb5.trans (bY5.mono hz5)
              have hrn2 := hrn Y5 hbX5
              go_upto_region 26 with (first
                | (refine wpList_new rfl spZ rfl ?_)
                | (refine wpList_store_row rfl 38 (.tmp 11) (.tmp 102) rfl _ NS.cells.toArray rfl rfl _ sp0.cells.toArray (heap_alloc_new _ _) iN zN (all_oneCell_toArray (one_sp _)) ?_)
                | fail)
              try rw [hY]
              clear hY hnw hrn
              go_wp2_with fail
              refine Calls.mono hrn2 ?_
              rintro e X6 ⟨rfl, hb6⟩
              obtain ⟨Y6, hY, a13, bY6⟩ := newRow X6 sp0.cells.toArray NS.cells.toArray 38
              have hz6 := hb6.size
              have a112 := bBlk bY6 (by have := (Array.getElem?_eq_some_iff.1 a11).1; omega) (bBlk hb6 (Array.getElem?_eq_some_iff.1 a11).1 a11)
              have hbX6 := hbX5.trans ((hb6.trans (bY6.mono hz6)).mono hbX5.size)
              go_upto_region 27 with (first
                | (refine wpList_new rfl spZ rfl ?_)
                | (refine wpList_store_row rfl 38 (.tmp 13) (.tmp 107) rfl _ NS.cells.toArray rfl rfl _ sp0.cells.toArray (heap_alloc_new _ _) iN zN (all_oneCell_toArray (one_sp _)) ?_)
                | fail)
              try rw [hY]
              clear hY hrn2 a11
              refine wp_region_lit ?_
              refine wpList_load_row rfl 38 (.tmp 11) rfl _ rfl _ NS.cells.toArray (0, 0) _ a112 Try.underlying38 rfl iN ?_
              (try simp only [Act.put, List.setIfInBounds_toArray, List.set_cons_zero, List.set_cons_succ])
              refine wpList_load_row rfl 38 (.tmp 13) rfl _ rfl _ NS.cells.toArray (0, 0) _ a13 Try.underlying38 rfl iN ?_
              (try simp only [Act.put, List.setIfInBounds_toArray, List.set_cons_zero, List.set_cons_succ])
              go_wp2_with fail
              go_roundw
              case rel => exact ⟨k + 1, by go_num, by omega, hB4.trans (hbX6.mono hB4.size)⟩
              case measure => simp [intOf]; omega
    · obtain rfl : k = l.length := by omega
      go_wp2_with fail
      refine (wakes07_any _).mono ?_
      rintro e W2 ⟨rfl, hb2⟩
      go_wp2
      go_ret
      exact Ret.mk rfl (hB.trans (hb2.mono hB.size))

set_option maxHeartbeats 4000000 in
set_option maxRecDepth 100000 in
theorem superPlays_unfair (n : Int) {w : World} {A : Option Addr} {c : Nat} {l : List St7} (hs : Sl w w.heap.size 182 A l.length (l.flatMap St7.enc')) (hc : l.length ≤ c) (hm : c ≤ maxLen) (hok : ∀ x ∈ l, x.Ok w) (ht : fair7 l = false) :
    Calls Try.prog 3 #[.int .i64 n, .slice A l.length c] w (Ret w (.bool true)) := by
  have hfair := fair7_any (w := w) hs hok hc hm
  rw [ht] at hfair
  go_enter Try.func3, Try.ntmps3
  go_wp2_with fail
  refine hfair.mono ?_
  rintro e _ ⟨rfl, rfl⟩
  clear hfair
  go_wp2_with fail
  refine (wakes07_any _).mono ?_
  rintro e W2 ⟨rfl, hb2⟩
  go_wp2
  go_ret
  exact Ret.mk rfl hb2

set_option maxRecDepth 100000 in
theorem superPlays_walk {H : Type} {enc : TypeId × Value → H} {W : World} {base : Nat} {v0 v1 : Value} {d0 d1 : DataW H} {p0 p1 : List MemPlace}
    (k0 : Value.okWide Try.prog W .any base 3 v0) (h0 : DataW.Trod enc Try.prog W 0 (fun _ => true) true 3 v0 d0 p0)
    (k1 : Value.okWide Try.prog W .any base 22 v1) (h1 : DataW.Trod enc Try.prog W 0 (fun _ => true) true 22 v1 d1 p1)
    : Calls Try.prog 3 #[v0, v1] W fun e W' => e = .returned (.bool true) ∧ Below W.heap.size W W' := by
  obtain ⟨n, rfl, -, -, -⟩ := open_int Try.underlying3 k0 h0
  obtain ⟨A, c, l, rfl, a1, a2, a3, a4⟩ := open_st7 k1 h1
  cases ht : fair7 l
  · exact superPlays_unfair n a3 a1 a2 a4 ht
  · by_cases hn : n < 16 ∨ 128 < n
    · exact superPlays_none n hn a3 a1 a2 a4 ht
    · obtain ⟨m, rfl⟩ : ∃ m : Nat, n = (m : Int) := ⟨n.toNat, by omega⟩
      exact superPlays_yes m (by omega) (by omega) a3 a1 a2 a4 ht
end Go.Proofs.Ytnkdbkgihemjnaa
