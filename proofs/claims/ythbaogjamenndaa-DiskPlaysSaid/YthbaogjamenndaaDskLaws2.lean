/- The statements of layer 1: DiskCounts. -/
import Derived.Test.YthbaogjamenndaaDskStep
namespace Go.Proofs.Ythbaogjamenndaa
set_option linter.unusedSimpArgs false
set_option linter.unusedVariables false
open Go.RowKit Go.ChangeShapes Go.WideShapes Go.Sort

theorem write_cnt (s : DS) (i : Int) (b : Blk) : (s.writeE i = 0 → (s.write i b).done = s.done + 1 ∧ (s.write i b).lo.length = s.lo.length + 1) ∧ (s.writeE i ≠ 0 → (s.write i b).done = s.done ∧ (s.write i b).lo.length = s.lo.length) := by
  unfold DS.writeE DS.write DS.passE
  cases s.inB i
  · simp
  · cases s.stops
    · simp [DS.gone]
    · simp [DS.cut]
theorem sync_cnt (s : DS) : (s.passE = 0 → s.sync.done = s.done + 1 ∧ s.sync.lo.length = 0) ∧ (s.passE ≠ 0 → s.sync.done = s.done ∧ s.sync.lo.length = s.lo.length) := by
  unfold DS.passE DS.sync
  cases s.stops
  · simp [DS.gone]
  · simp [DS.cut]
/-- an own row that has no element -/
theorem own_none (w : World) (base : Nat) (e : TypeId) (size : Nat) (hb : base ≤ w.heap.size) : (w.alloc (.cells #[] e)).ownsRow base e size (.slice (some ⟨w.heap.size, 0, none⟩) 0 0) 0 [] :=
  ⟨by simp, .inr ⟨w.heap.size, 0, #[], rfl, hb, heap_alloc_new _ _, Nat.le_refl _, by simp [maxLen], by simp, by simp⟩⟩
theorem elemU8' : Elem Try.prog 5 1 1 := elem_of (z := .int .u8 0) (by kernel_rfl) rfl (by omega)
theorem u8_info : ∃ i, Try.prog.info? 5 = some i ∧ i.size = 1 := by
  have h : (Try.prog.info? 5).map (·.size) = some 1 := by kernel_rfl
  cases hq : Try.prog.info? 5 with
  | none => rw [hq] at h; cases h
  | some i => exact ⟨i, rfl, by rw [hq] at h; simpa using h⟩
/-- a step's cells -/
structure StpAt (w : World) (G : Nat) (x : Stp) : Prop where
  blk : w.heap[G]? = some (.cells #[.int .i64 x.kind, .int .i64 x.i, .int .u8 (x.v.toNat : Int), .slice x.A x.keep.length x.c] 52)
  c0 : w.cell? ⟨G, 0, none⟩ = some (.int .i64 x.kind)
  c1 : w.cell? ⟨G, 1, none⟩ = some (.int .i64 x.i)
  c2 : w.cell? ⟨G, 2, none⟩ = some (.int .u8 (x.v.toNat : Int))
  c3 : w.cell? ⟨G, 3, none⟩ = some (.slice x.A x.keep.length x.c)
theorem StpAt.of {w : World} {G : Nat} {x : Stp} (h : w.heap[G]? = some (.cells #[.int .i64 x.kind, .int .i64 x.i, .int .u8 (x.v.toNat : Int), .slice x.A x.keep.length x.c] 52)) : StpAt w G x := ⟨h, blk_cell h rfl, blk_cell h rfl, blk_cell h rfl, blk_cell h rfl⟩
theorem StpAt.next {w w' : World} {G : Nat} {x : Stp} (h : StpAt w G x) (hb : w'.heap[G]? = w.heap[G]?) : StpAt w' G x := .of (hb.trans h.blk)

attribute [-go_sem] Builtin.append_
set_option maxHeartbeats 8000000 in
set_option maxRecDepth 100000 in
theorem diskCounts_core {w : World} {A : Option Addr} {c : Nat} {l : List Stp} (hs : Sl w w.heap.size 4 A l.length (encS l)) (hc : l.length ≤ c) (hm : c ≤ maxLen) (hok : ∀ x ∈ l, x.Ok w) :
    Calls Try.prog 12 #[.slice A l.length c] w (Ret w (.bool true)) := by
  have hn := fun W => new_any 16 (by omega) (by omega) W
  have hm2 : l.length ≤ 9223372036854775807 := by simp only [maxLen] at hm; omega
  go_enter Try.func12, Try.ntmps12
  go_wp2_with fail
  refine (hn _).mono ?_
  rintro e W0 ⟨rfl, hk0, hb0⟩
  have hfair := fair_any (w := W0) (hs.next hb0) hc hm
  obtain ⟨t, ht⟩ : ∃ t, fairL l = t := ⟨_, rfl⟩
  rw [ht] at hfair
  unfold dp
  clear hn
  go_wp2_with fail
  refine hfair.mono ?_
  rintro e _ ⟨rfl, rfl⟩
  clear hfair
  cases t
  · go_wp2_with fail
    refine (wakes01_any _).mono ?_
    rintro e W2 ⟨rfl, hb2⟩
    go_wp2
    go_ret
    exact Ret.mk rfl (hb0.trans (hb2.mono hb0.size))
  · have h200 : l.length ≤ 200 ∧ ∀ x ∈ l, x.keep.length ≤ 300 := by
      unfold fairL at ht
      simp at ht
      exact ⟨ht.2, ht.1⟩
    obtain ⟨hl2, hkp⟩ := h200
    clear ht
    go_wp2_with fail
    go_loopw [5, 6, 7] (fun d q i wr => ∃ (k : Nat) (s : DS) (v : Value), d = .int .i64 (s.done : Nat) ∧ q = .int .i64 (s.lo.length : Nat) ∧ i = .int .i64 k ∧ k ≤ l.length ∧ s.done ≤ k ∧ s.lo.length ≤ k ∧ Dk wr w.heap.size (w.heap.size + 1) w.heap.size v s ∧ Below w.heap.size w wr) (fun _ _ i _ => l.length - (intOf i).toNat)
    case atStart => exact ⟨0, DS.new 16, _, rfl, rfl, rfl, by omega, Nat.le_refl _, Nat.le_refl _, hk0, hb0⟩
    case round =>
      clear hk0 hb0
      obtain ⟨k, s, v, rfl, rfl, rfl, hk, hdk, hlk, hD, hB⟩ := hrel
      by_cases hlt : k < l.length
      · obtain ⟨x, hx⟩ : ∃ x, l[k]? = some x := ⟨_, List.getElem?_eq_getElem hlt⟩
        have hxm := List.mem_of_getElem? hx
        obtain ⟨b, o, rfl, hb, q0, q1, q2, q3⟩ := step_at (hs.below hB) hx
        have hxk := hkp x hxm
        obtain ⟨hxi, hxs, hxc, hxcm⟩ := hok x hxm
        have g1 : (k : Int) < l.length := by omega
        have hzr := hB.size
        unfold bv at q2
        clear hx hxm
        go_upto_region 9 with (fail)
        generalize hY : World.alloc _ _ = Y
        have hYx : StpAt Y wr.heap.size x := by rw [← hY]; exact .of (heap_alloc_new _ _)
        have hbY : Below wr.heap.size wr Y := by rw [← hY]; exact (Below.refl _ _).alloc (Nat.le_refl _) _
        have hDY := hD.below hbY
        have hBY := hB.trans (hbY.mono hzr)
        have hGY : wr.heap.size < Y.heap.size := (Array.getElem?_eq_some_iff.1 hYx.blk).1
        have hGo : ∀ j, Own (w.heap.size + 1) w.heap.size v j → j < wr.heap.size := fun j hj => (hD.own_ge j hj).2
        have hxsY := hxs.below (B := w.heap.size) hBY
        clear hY q0 q1 q2 q3 hD hB hbY
        obtain ⟨yb, y0, y1, y2, y3⟩ := hYx
        by_cases k0 : x.kind = 0
        · -- Write
          rw [k0] at y0
          have hq := write_cnt s x.i (fillB x.v)
          let S : World → Prop := fun w' => w'.cell? ⟨wr.heap.size, 1, none⟩ = some (.int .i64 x.i) ∧ w'.cell? ⟨wr.heap.size, 2, none⟩ = some (.int .u8 (x.v.toNat : Int))
          have hS : ∀ w', w'.heap[wr.heap.size]? = Y.heap[wr.heap.size]? → S w' := fun w' h => ⟨(World.cell?_of_block (a := ⟨wr.heap.size, 1, none⟩) h).trans y1, (World.cell?_of_block (a := ⟨wr.heap.size, 2, none⟩) h).trans y2⟩
          have HS := Lib.hid hS
          have hS0 : S Y.drew := hS _ rfl
          have hfl : ∀ W, Calls Try.prog 30 #[.int .u8 (x.v.toNat : Int)] W (Ret W (.agg (bvs (fillB x.v)).toArray)) := fun W => fill_any x.v W
          have hDd := hDY.below (w' := Y.drew) ((Below.refl _ _).drew)
          have hwr := fun W (h : Dk W w.heap.size (w.heap.size + 1) w.heap.size v s) => write_any h (by omega) (by omega) x.i (fillB_len x.v)
          unfold bkv dp at hwr
          clear hS y2 y3 yb hxs hxsY
          go_upto_region 11 with (fail)
          refine wp_region_held (S := S) (by kernel_rfl) ?_
          change wpAnyH _ _ _ _ S _ _ _ Y.drew
          refine wpAnyH_take (i := 0) (oi := ?oi_19) (v := ?v_19) ?ho_19 ?h1_19 ?h2_19 ?h3_19 ?hq_19 (Or.inl ⟨?hw_19, ?hy_19⟩) ?hs_19 ?rest_19; (case h2_19 => kernel_rfl); (case h3_19 => kernel_rfl); (case ho_19 => (simp only [List.getElem?_toArray, List.getElem?_cons_zero, List.getElem?_cons_succ]; rfl)); (case h1_19 => kernel_rfl); (case hq_19 => exact fun _ _ _ h => h); (case hw_19 => rfl); (case hy_19 => (intro w' hSw; (try simp only [S] at hSw); go_simp; (try with_reducible rfl))); (case hs_19 => assumption); (try simp only [Act.put, List.setIfInBounds_toArray, List.set_cons_zero, List.set_cons_succ])
          refine wpAnyH_take (i := 1) (oi := ?oi_20) (v := ?v_20) ?ho_20 ?h1_20 ?h2_20 ?h3_20 ?hq_20 (Or.inl ⟨?hw_20, ?hy_20⟩) ?hs_20 ?rest_20; (case h2_20 => kernel_rfl); (case h3_20 => kernel_rfl); (case ho_20 => (simp only [List.getElem?_toArray, List.getElem?_cons_zero, List.getElem?_cons_succ]; rfl)); (case h1_20 => kernel_rfl); (case hq_20 => exact fun _ _ _ h => h); (case hw_20 => rfl); (case hy_20 => (intro w' hSw; (try simp only [S] at hSw); go_simp; (try with_reducible rfl))); (case hs_20 => assumption); (try simp only [Act.put, List.setIfInBounds_toArray, List.set_cons_zero, List.set_cons_succ])
          refine wpAnyH_take (i := 2) (oi := ?oi_21) (v := ?v_21) ?ho_21 ?h1_21 ?h2_21 ?h3_21 ?hq_21 (Or.inl ⟨?hw_21, ?hy_21⟩) ?hs_21 ?rest_21; (case h2_21 => kernel_rfl); (case h3_21 => kernel_rfl); (case ho_21 => (simp only [List.getElem?_toArray, List.getElem?_cons_zero, List.getElem?_cons_succ]; rfl)); (case h1_21 => kernel_rfl); (case hq_21 => exact fun _ _ _ h => h); (case hw_21 => rfl); (case hy_21 => (intro w' hSw; (try simp only [S] at hSw); go_simp; (try with_reducible rfl))); (case hs_21 => assumption); (try simp only [Act.put, List.setIfInBounds_toArray, List.set_cons_zero, List.set_cons_succ])
          refine wpAnyH_take (i := 3) (oi := ?oi_22) (v := ?v_22) ?ho_22 ?h1_22 ?h2_22 ?h3_22 ?hq_22 (Or.inl ⟨?hw_22, ?hy_22⟩) ?hs_22 ?rest_22; (case h2_22 => kernel_rfl); (case h3_22 => kernel_rfl); (case ho_22 => (simp only [List.getElem?_toArray, List.getElem?_cons_zero, List.getElem?_cons_succ]; rfl)); (case h1_22 => kernel_rfl); (case hq_22 => exact fun _ _ _ h => h); (case hw_22 => rfl); (case hy_22 => (intro w' hSw; (try simp only [S] at hSw); go_simp; (try with_reducible rfl))); (case hs_22 => assumption); (try simp only [Act.put, List.setIfInBounds_toArray, List.set_cons_zero, List.set_cons_succ])
          refine wpAnyH_take (i := 4) (oi := ?oi_23) (v := ?v_23) ?ho_23 ?h1_23 ?h2_23 ?h3_23 ?hq_23 (Or.inl ⟨?hw_23, ?hy_23⟩) ?hs_23 ?rest_23; (case h2_23 => kernel_rfl); (case h3_23 => kernel_rfl); (case ho_23 => (simp only [List.getElem?_toArray, List.getElem?_cons_zero, List.getElem?_cons_succ]; rfl)); (case h1_23 => kernel_rfl); (case hq_23 => exact fun _ _ _ h => h); (case hw_23 => rfl); (case hy_23 => (intro w' hSw; (try simp only [S] at hSw); go_simp; (try with_reducible rfl))); (case hs_23 => assumption); (try simp only [Act.put, List.setIfInBounds_toArray, List.set_cons_zero, List.set_cons_succ])
          clear y1
          refine wpAnyH_ready (rs := [5]) (by kernel_rfl) (by simp) (AllReadyH.cons (o := ?oo5_31) ?hoo5_31 (fun K hK => ?steponly31) AllReadyH.nil); (case hoo5_31 => (simp only [List.getElem?_toArray, List.getElem?_cons_zero, List.getElem?_cons_succ]; rfl))
          go_simp
          refine (hfl _).mono ?_
          rintro e W1 ⟨rfl, hb1⟩
          have hD1 := hDd.below hb1
          have hB1 := hBY.trans (((Below.refl _ _).drew).trans (hb1.mono (by show w.heap.size ≤ Y.heap.size; omega)))
          have e1 : W1.heap[wr.heap.size]? = Y.heap[wr.heap.size]? := hb1.block _ hGY
          have hz1 : Y.heap.size ≤ W1.heap.size := hb1.size
          refine hK.out _ _ (HS.out _ e1) (fun _ => ?_)
          clear hK K
          (try simp only [Act.put, List.setIfInBounds_toArray, List.set_cons_zero, List.set_cons_succ])
          refine wpAnyH_ready (rs := [6]) (by kernel_rfl) (by simp) (AllReadyH.cons (o := ?oo6_32) ?hoo6_32 (fun K hK => ?steponly32) AllReadyH.nil); (case hoo6_32 => (simp only [List.getElem?_toArray, List.getElem?_cons_zero, List.getElem?_cons_succ]; rfl))
          go_simp
          refine (hwr _ hD1).mono ?_
          rintro e W2 ⟨rfl, v2, hD2, hs2⟩
          have hB2 := hB1.trans (hs2.below hD1)
          have e2 : W2.heap[wr.heap.size]? = Y.heap[wr.heap.size]? := (hs2.but.block _ (by omega) (fun hj => by have := hGo _ hj; omega)).trans e1
          refine hK.out _ _ (HS.out _ e2) (fun _ => ?_)
          clear hK K
          (try simp only [Act.put, List.setIfInBounds_toArray, List.set_cons_zero, List.set_cons_succ])
          clear hwr hfl hDd hD1 hDY hS0
          obtain ⟨s2, hs2e⟩ : ∃ s2, s.write x.i (fillB x.v) = s2 := ⟨_, rfl⟩
          rw [hs2e] at hD2 hq
          clear hs2e hs2
          by_cases he : s.writeE x.i = 0
          · obtain ⟨r1, r2⟩ := hq.1 he
            have R := Lib.hid (And.intro r1 r2)
            have w1 : IntKind.i64.wrap ((s.done : Int) + 1) = ((s.done + 1 : Nat) : Int) := by rw [wrap_small _ (by omega) (by omega)]; omega
            have w2 : IntKind.i64.wrap ((s.lo.length : Int) + 1) = ((s.lo.length + 1 : Nat) : Int) := by rw [wrap_small _ (by omega) (by omega)]; omega
            clear hq r1 r2
            rw [he]
            refine wpAnyH_take (i := 7) (oi := ?oi_24) (v := ?v_24) ?ho_24 ?h1_24 ?h2_24 ?h3_24 ?hq_24 (Or.inl ⟨?hw_24, ?hy_24⟩) ?hs_24 ?rest_24; (case h2_24 => kernel_rfl); (case h3_24 => kernel_rfl); (case ho_24 => (simp only [List.getElem?_toArray, List.getElem?_cons_zero, List.getElem?_cons_succ]; rfl)); (case h1_24 => kernel_rfl); (case hq_24 => exact fun _ _ _ h => h); (case hw_24 => rfl); (case hy_24 => (intro w' hSw; (try simp only [S] at hSw); go_simp; (try with_reducible rfl))); (case hs_24 => assumption); (try simp only [Act.put, List.setIfInBounds_toArray, List.set_cons_zero, List.set_cons_succ])
            refine wpAnyH_done (by kernel_rfl) ?_ _
            go_wp2_with fail
            refine (done_any hD2).mono ?_
            rintro e _ ⟨rfl, rfl⟩
            rw [R.out.1]
            go_wp2_with fail
            refine (loose_any hD2).mono ?_
            rintro e _ ⟨rfl, rfl⟩
            rw [R.out.2]
            go_wp2_with fail
            go_roundw
            case rel => exact ⟨k + 1, s2, v2, by rw [R.out.1]; try rfl, by rw [R.out.2]; try rfl, by go_num, by omega, by rw [R.out.1]; omega, by rw [R.out.2]; omega, hD2, hB2⟩
            case measure => simp [intOf]; omega
          · obtain ⟨r1, r2⟩ := hq.2 he
            have R := Lib.hid (And.intro r1 r2)
            clear hq r1 r2
            obtain ⟨q, hqe⟩ : ∃ q, s.writeE x.i = q := ⟨_, rfl⟩
            rw [hqe] at he ⊢
            have hd0 : decide (q = 0) = false := by simp [he]
            clear hqe
            refine wpAnyH_take (i := 7) (oi := ?oi_25) (v := ?v_25) ?ho_25 ?h1_25 ?h2_25 ?h3_25 ?hq_25 (Or.inl ⟨?hw_25, ?hy_25⟩) ?hs_25 ?rest_25; (case h2_25 => kernel_rfl); (case h3_25 => kernel_rfl); (case ho_25 => (simp only [List.getElem?_toArray, List.getElem?_cons_zero, List.getElem?_cons_succ]; rfl)); (case h1_25 => kernel_rfl); (case hq_25 => exact fun _ _ _ h => h); (case hw_25 => rfl); (case hy_25 => (intro w' hSw; (try simp only [S] at hSw); go_simp; (try with_reducible rfl))); (case hs_25 => assumption); (try simp only [Act.put, List.setIfInBounds_toArray, List.set_cons_zero, List.set_cons_succ])
            refine wpAnyH_done (by kernel_rfl) ?_ _
            go_wp2_with fail
            refine (done_any hD2).mono ?_
            rintro e _ ⟨rfl, rfl⟩
            rw [R.out.1]
            go_wp2_with fail
            refine (loose_any hD2).mono ?_
            rintro e _ ⟨rfl, rfl⟩
            rw [R.out.2]
            go_wp2_with fail
            go_roundw
            case rel => exact ⟨k + 1, s2, v2, by rw [R.out.1]; try rfl, by rw [R.out.2]; try rfl, by go_num, by omega, by rw [R.out.1]; omega, by rw [R.out.2]; omega, hD2, hB2⟩
            case measure => simp [intOf]; omega
        · by_cases k1 : x.kind = 1
          · -- Read
            rw [k1] at y0
            go_wp2_with fail
            refine (read_any hDY (by omega) x.i).mono ?_
            rintro e W2 ⟨rfl, hb2⟩
            have hD2 := hDY.below hb2
            have hB2 := hBY.trans (hb2.mono (by omega))
            go_wp2_with fail
            refine (done_any hD2).mono ?_
            rintro e _ ⟨rfl, rfl⟩

            go_wp2_with fail
            refine (loose_any hD2).mono ?_
            rintro e _ ⟨rfl, rfl⟩

            go_wp2_with fail
            go_roundw
            case rel => exact ⟨k + 1, s, v, by skip; try rfl, by skip; try rfl, by go_num, by omega, by omega, by omega, hD2, hB2⟩
            case measure => simp [intOf]; omega
          · by_cases k2 : x.kind = 2
            · -- Sync
              rw [k2] at y0
              have hq := sync_cnt s
              go_wp2_with fail
              refine (sync_any hDY (by omega) (by omega)).mono ?_
              rintro e W2 ⟨rfl, v2, hD2, hs2⟩
              have hB2 := hBY.trans (hs2.below hDY)
              clear hs2 hDY
              obtain ⟨s2, hs2e⟩ : ∃ s2, s.sync = s2 := ⟨_, rfl⟩
              rw [hs2e] at hD2 hq
              clear hs2e
              by_cases he : s.passE = 0
              · obtain ⟨r1, r2⟩ := hq.1 he
                have R := Lib.hid (And.intro r1 r2)
                have w1 : IntKind.i64.wrap ((s.done : Int) + 1) = ((s.done + 1 : Nat) : Int) := by rw [wrap_small _ (by omega) (by omega)]; omega
                clear hq r1 r2
                rw [he]
                go_wp2_with fail
                refine (done_any hD2).mono ?_
                rintro e _ ⟨rfl, rfl⟩
                rw [R.out.1]
                go_wp2_with fail
                refine (loose_any hD2).mono ?_
                rintro e _ ⟨rfl, rfl⟩
                rw [R.out.2]
                go_wp2_with fail
                go_roundw
                case rel => exact ⟨k + 1, s2, v2, by rw [R.out.1]; try rfl, by rw [R.out.2]; try rfl, by go_num, by omega, by rw [R.out.1]; omega, by rw [R.out.2]; omega, hD2, hB2⟩
                case measure => simp [intOf]; omega
              · obtain ⟨r1, r2⟩ := hq.2 he
                have R := Lib.hid (And.intro r1 r2)
                clear hq r1 r2
                obtain ⟨q, hqe⟩ : ∃ q, s.passE = q := ⟨_, rfl⟩
                rw [hqe] at he ⊢
                have hd0 : decide (q = 0) = false := by simp [he]
                clear hqe
                go_wp2_with fail
                refine (done_any hD2).mono ?_
                rintro e _ ⟨rfl, rfl⟩
                rw [R.out.1]
                go_wp2_with fail
                refine (loose_any hD2).mono ?_
                rintro e _ ⟨rfl, rfl⟩
                rw [R.out.2]
                go_wp2_with fail
                go_roundw
                case rel => exact ⟨k + 1, s2, v2, by rw [R.out.1]; try rfl, by rw [R.out.2]; try rfl, by go_num, by omega, by rw [R.out.1]; omega, by rw [R.out.2]; omega, hD2, hB2⟩
                case measure => simp [intOf]; omega
            · by_cases k3 : x.kind = 3
              · -- Crash
                rw [k3] at y0
                let S : World → Prop := fun w' => w'.cell? ⟨wr.heap.size, 1, none⟩ = some (.int .i64 x.i) ∧ w'.cell? ⟨wr.heap.size, 3, none⟩ = some (.slice x.A x.keep.length x.c)
                have hS : ∀ w', w'.heap[wr.heap.size]? = Y.heap[wr.heap.size]? → S w' := fun w' h => ⟨(World.cell?_of_block (a := ⟨wr.heap.size, 1, none⟩) h).trans y1, (World.cell?_of_block (a := ⟨wr.heap.size, 3, none⟩) h).trans y3⟩
                have HS := Lib.hid hS
                have hS0 : S Y.drew := hS _ rfl
                have hDd := hDY.below (w' := Y.drew) ((Below.refl _ _).drew)
                obtain ⟨W1, hW1⟩ : ∃ W1, (Y.alloc (.cells #[] 5)).drew = W1 := ⟨_, rfl⟩
                have hb1 : Below Y.heap.size Y W1 := by rw [← hW1]; exact ((Below.refl _ _).alloc (Nat.le_refl _) _).drew
                have e1 : W1.heap[wr.heap.size]? = Y.heap[wr.heap.size]? := hb1.block _ hGY
                have hrow0 : W1.ownsRow Y.heap.size 5 1 (.slice (some ⟨Y.heap.size, 0, none⟩) 0 0) 0 [] := by rw [← hW1]; exact (own_none Y Y.heap.size 5 1 (Nat.le_refl _)).drew
                have hxs1 := hxsY.below (hb1.mono (by omega))
                have hz1 : Y.heap.size + 1 ≤ W1.heap.size := by rw [← hW1]; show _ ≤ (Y.alloc _).heap.size; simp
                obtain ⟨A2, c2, W2, hrun, hrow2, hg2, hat2⟩ := run_app (P := Try.prog) W1 (ty := 50) (t := 50) Try.underlying50 elemU8' hrow0 hxs1 (c := x.c) (oneCell_bvs _) (by simp only [maxLen]; omega) (by omega) (by omega)
                rw [Nat.zero_add, List.nil_append] at hrow2
                rw [Nat.zero_add] at hrun hat2
                have hb2 : Below Y.heap.size W1 W2 := (Below.refl _ _).grown hg2 (by omega) (fun j hj => by simp [Value.ownBlock] at hj; omega)
                have hbY2 := hb1.trans hb2
                have hD2 := hDY.below hbY2
                have hB2 := hBY.trans (hbY2.mono (by omega))
                have e2 : W2.heap[wr.heap.size]? = Y.heap[wr.heap.size]? := hbY2.block _ hGY
                have hA2 : ∀ b o, 0 < x.keep.length → A2 = some ⟨b, o, none⟩ → ¬ Own (w.heap.size + 1) w.heap.size v b := fun b o _ e hj => by
                  have h1 := hGo b hj
                  have h2 := (hrow2.lt b (by rw [e]; rfl)).1
                  omega
                have hcr := crash_any hD2 (by omega) x.keep A2 c2 (by omega) (Sl.of_own hrow2) hA2 x.i
                unfold dp at hcr
                have hS1 := HS.out _ e1
                have hS2 := HS.out _ e2
                have HR := Lib.hid (And.intro hD2 (And.intro hB2 e2))
                clear hS y2 yb hxs hxsY hxs1 hrow0 hrow2 hg2 hat2 hA2 hD2 hB2 e2 e1 hb1 hb2 hbY2 hDY hDd hz1
                go_upto_region 21 with (fail)
                refine wp_region_held (S := S) (by kernel_rfl) ?_
                change wpAnyH _ _ _ _ S _ _ _ Y.drew
                refine wpAnyH_take (i := 0) (oi := ?oi_26) (v := ?v_26) ?ho_26 ?h1_26 ?h2_26 ?h3_26 ?hq_26 (Or.inl ⟨?hw_26, ?hy_26⟩) ?hs_26 ?rest_26; (case h2_26 => kernel_rfl); (case h3_26 => kernel_rfl); (case ho_26 => (simp only [List.getElem?_toArray, List.getElem?_cons_zero, List.getElem?_cons_succ]; rfl)); (case h1_26 => kernel_rfl); (case hq_26 => exact fun _ _ _ h => h); (case hw_26 => rfl); (case hy_26 => (intro w' hSw; (try simp only [S] at hSw); go_simp; (try with_reducible rfl))); (case hs_26 => assumption); (try simp only [Act.put, List.setIfInBounds_toArray, List.set_cons_zero, List.set_cons_succ])
                refine wpAnyH_take (i := 2) (oi := ?oi_27) (v := ?v_27) ?ho_27 ?h1_27 ?h2_27 ?h3_27 ?hq_27 (Or.inl ⟨?hw_27, ?hy_27⟩) ?hs_27 ?rest_27; (case h2_27 => kernel_rfl); (case h3_27 => kernel_rfl); (case ho_27 => (simp only [List.getElem?_toArray, List.getElem?_cons_zero, List.getElem?_cons_succ]; rfl)); (case h1_27 => kernel_rfl); (case hq_27 => exact fun _ _ _ h => h); (case hw_27 => rfl); (case hy_27 => (intro w' hSw; (try simp only [S] at hSw); go_simp; (try with_reducible rfl))); (case hs_27 => assumption); (try simp only [Act.put, List.setIfInBounds_toArray, List.set_cons_zero, List.set_cons_succ])
                refine wpAnyH_take (i := 3) (oi := ?oi_28) (v := ?v_28) ?ho_28 ?h1_28 ?h2_28 ?h3_28 ?hq_28 (Or.inl ⟨?hw_28, ?hy_28⟩) ?hs_28 ?rest_28; (case h2_28 => kernel_rfl); (case h3_28 => kernel_rfl); (case ho_28 => (simp only [List.getElem?_toArray, List.getElem?_cons_zero, List.getElem?_cons_succ]; rfl)); (case h1_28 => kernel_rfl); (case hq_28 => exact fun _ _ _ h => h); (case hw_28 => rfl); (case hy_28 => (intro w' hSw; (try simp only [S] at hSw); go_simp; (try with_reducible rfl))); (case hs_28 => assumption); (try simp only [Act.put, List.setIfInBounds_toArray, List.set_cons_zero, List.set_cons_succ])
                refine wpAnyH_take (i := 5) (oi := ?oi_29) (v := ?v_29) ?ho_29 ?h1_29 ?h2_29 ?h3_29 ?hq_29 (Or.inl ⟨?hw_29, ?hy_29⟩) ?hs_29 ?rest_29; (case h2_29 => kernel_rfl); (case h3_29 => kernel_rfl); (case ho_29 => (simp only [List.getElem?_toArray, List.getElem?_cons_zero, List.getElem?_cons_succ]; rfl)); (case h1_29 => kernel_rfl); (case hq_29 => exact fun _ _ _ h => h); (case hw_29 => rfl); (case hy_29 => (intro w' hSw; (try simp only [S] at hSw); go_simp; (try with_reducible rfl))); (case hs_29 => assumption); (try simp only [Act.put, List.setIfInBounds_toArray, List.set_cons_zero, List.set_cons_succ])
                refine wpAnyH_take (i := 6) (oi := ?oi_30) (v := ?v_30) ?ho_30 ?h1_30 ?h2_30 ?h3_30 ?hq_30 (Or.inl ⟨?hw_30, ?hy_30⟩) ?hs_30 ?rest_30; (case h2_30 => kernel_rfl); (case h3_30 => kernel_rfl); (case ho_30 => (simp only [List.getElem?_toArray, List.getElem?_cons_zero, List.getElem?_cons_succ]; rfl)); (case h1_30 => kernel_rfl); (case hq_30 => exact fun _ _ _ h => h); (case hw_30 => rfl); (case hy_30 => (intro w' hSw; (try simp only [S] at hSw); go_simp; (try with_reducible rfl))); (case hs_30 => assumption); (try simp only [Act.put, List.setIfInBounds_toArray, List.set_cons_zero, List.set_cons_succ])
                clear y1 y3
                refine wpAnyH_ready (rs := [1]) (by kernel_rfl) (by simp) (AllReadyH.cons (o := ?oo1_33) ?hoo1_33 (fun K hK => ?steponly33) AllReadyH.nil); (case hoo1_33 => (simp only [List.getElem?_toArray, List.getElem?_cons_zero, List.getElem?_cons_succ]; rfl))
                go_simp
                refine hK.out _ _ hS1 (fun _ => ?_)
                clear hK K
                (try simp only [Act.put, List.setIfInBounds_toArray, List.set_cons_zero, List.set_cons_succ])
                refine wpAnyH_ready (rs := [4]) (by kernel_rfl) (by simp) (AllReadyH.cons (o := ?oo4_34) ?hoo4_34 (fun K hK => ?steponly34) AllReadyH.nil); (case hoo4_34 => (simp only [List.getElem?_toArray, List.getElem?_cons_zero, List.getElem?_cons_succ]; rfl))
                go_simp
                refine hK.out _ _ hS2 (fun _ => ?_)
                clear hK K
                (try simp only [Act.put, List.setIfInBounds_toArray, List.set_cons_zero, List.set_cons_succ])
                refine wpAnyH_ready (rs := [7]) (by kernel_rfl) (by simp) (AllReadyH.cons (o := ?oo7_35) ?hoo7_35 (fun K hK => ?steponly35) AllReadyH.nil); (case hoo7_35 => (simp only [List.getElem?_toArray, List.getElem?_cons_zero, List.getElem?_cons_succ]; rfl))
                go_simp
                refine hcr.mono ?_
                rintro e W3 ⟨rfl, v3, hD3, hs3⟩
                have hB3 := HR.out.2.1.trans (hs3.below HR.out.1)
                have e3 : W3.heap[wr.heap.size]? = Y.heap[wr.heap.size]? := (hs3.but.block _ (by have := hs3.but.size; have h := (Array.getElem?_eq_some_iff.1 (HR.out.2.2.trans (Array.getElem?_eq_getElem hGY))).1; omega) (fun hj => by have := hGo _ hj; omega)).trans HR.out.2.2
                refine hK.out _ _ (HS.out _ e3) (fun _ => ?_)
                clear hK K
                (try simp only [Act.put, List.setIfInBounds_toArray, List.set_cons_zero, List.set_cons_succ])
                refine wpAnyH_done (by kernel_rfl) ?_ _
                clear hcr hs3 e3
                have hcd : (s.crash x.keep x.i).done = s.done := rfl
                have hcl : (s.crash x.keep x.i).lo.length = 0 := rfl
                obtain ⟨s3, hs3e⟩ : ∃ s3, s.crash x.keep x.i = s3 := ⟨_, rfl⟩
                rw [hs3e] at hD3 hcd hcl
                clear hs3e
                have R := Lib.hid (And.intro hcd hcl)
                clear hcd hcl
                go_wp2_with fail
                refine (done_any hD3).mono ?_
                rintro e _ ⟨rfl, rfl⟩
                rw [R.out.1]
                go_wp2_with fail
                refine (loose_any hD3).mono ?_
                rintro e _ ⟨rfl, rfl⟩
                rw [R.out.2]
                go_wp2_with fail
                go_roundw
                case rel => exact ⟨k + 1, s3, v3, by rw [R.out.1]; try rfl, by rw [R.out.2]; try rfl, by go_num, by omega, by rw [R.out.1]; omega, by rw [R.out.2]; omega, hD3, hB3⟩
                case measure => simp [intOf]; omega
              · by_cases k4 : x.kind = 4
                · -- Fuse
                  rw [k4] at y0
                  go_wp2_with fail
                  refine (fuse_any hDY x.i hxi.2).mono ?_
                  rintro e W2 ⟨rfl, hD2, hs2⟩
                  have hB2 := hBY.trans ((DStep.of_but hs2).below hDY)
                  have hcd : (s.fuseTo x.i).done = s.done := rfl
                  have hcl : (s.fuseTo x.i).lo.length = s.lo.length := rfl
                  obtain ⟨s3, hs3e⟩ : ∃ s3, s.fuseTo x.i = s3 := ⟨_, rfl⟩
                  rw [hs3e] at hD2 hcd hcl
                  clear hs3e
                  have R := Lib.hid (And.intro hcd hcl)
                  clear hcd hcl
                  go_wp2_with fail
                  refine (done_any hD2).mono ?_
                  rintro e _ ⟨rfl, rfl⟩
                  rw [R.out.1]
                  go_wp2_with fail
                  refine (loose_any hD2).mono ?_
                  rintro e _ ⟨rfl, rfl⟩
                  rw [R.out.2]
                  go_wp2_with fail
                  go_roundw
                  case rel => exact ⟨k + 1, s3, v, by rw [R.out.1]; try rfl, by rw [R.out.2]; try rfl, by go_num, by omega, by rw [R.out.1]; omega, by rw [R.out.2]; omega, hD2, hB2⟩
                  case measure => simp [intOf]; omega
                · -- none of these
                  have d0 : decide (x.kind = 0) = false := by simp [k0]
                  have d1 : decide (x.kind = 1) = false := by simp [k1]
                  have d2 : decide (x.kind = 2) = false := by simp [k2]
                  have d3 : decide (x.kind = 3) = false := by simp [k3]
                  have d4 : decide (x.kind = 4) = false := by simp [k4]
                  go_wp2_with fail
                  refine (done_any hDY).mono ?_
                  rintro e _ ⟨rfl, rfl⟩

                  go_wp2_with fail
                  refine (loose_any hDY).mono ?_
                  rintro e _ ⟨rfl, rfl⟩

                  go_wp2_with fail
                  go_roundw
                  case rel => exact ⟨k + 1, s, v, by skip; try rfl, by skip; try rfl, by go_num, by omega, by omega, by omega, hDY, hBY⟩
                  case measure => simp [intOf]; omega
      · obtain rfl : k = l.length := by omega
        have g1 : ¬ (l.length : Int) < l.length := by omega
        clear hs
        go_wp2_with fail
        refine (wakes01_any _).mono ?_
        rintro e W2 ⟨rfl, hb2⟩
        go_wp2
        go_ret
        exact Ret.mk rfl (hB.trans (hb2.mono hB.size))

set_option maxRecDepth 100000 in
theorem diskCounts_walk {H : Type} {enc : TypeId × Value → H} {W : World} {base : Nat} {v0 : Value} {d0 : DataW H} {p0 : List MemPlace}
    (k0 : Value.okWide Try.prog W .any base 42 v0) (h0 : DataW.Trod enc Try.prog W 0 (fun _ => true) true 42 v0 d0 p0)
    : Calls Try.prog 12 #[v0] W fun e W' => e = .returned (.bool true) ∧ Below W.heap.size W W' := by
  obtain ⟨A, c, l, rfl, h1, h2, h3, h4⟩ := open_steps k0 h0
  exact diskCounts_core h3 h1 h2 h4
end Go.Proofs.Ythbaogjamenndaa
