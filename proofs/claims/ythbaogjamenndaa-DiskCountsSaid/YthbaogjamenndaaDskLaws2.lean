/- The statements of layer 1: DiskCounts. -/
import Derived.Test.YthbaogjamenndaaDskStep
namespace Go.Proofs.Ythbaogjamenndaa
set_option linter.unusedSimpArgs false
set_option linter.unusedVariables false
open Go.RowKit Go.ChangeShapes Go.WideShapes Go.Sort

theorem write_cnt (s : DS) (i : Int) (b : Blk) : (s.writeE i = 0 → (s.write i b).done = s.done + 1 ∧ (s.write i b).lo.length = s.lo.length + 1) ∧ (s.writeE i ≠ 0 → (s.write i b).done = s.done ∧ (s.write i b).lo.length = s.lo.length) := by
  unfold DS.writeE DS.write DS.passE
  cases s.inB i
  · simp
  · cases s.stops
    · simp [DS.gone]
    · simp [DS.cut]
theorem sync_cnt (s : DS) : (s.passE = 0 → s.sync.done = s.done + 1 ∧ s.sync.lo.length = 0) ∧ (s.passE ≠ 0 → s.sync.done = s.done ∧ s.sync.lo.length = s.lo.length) := by
  unfold DS.passE DS.sync
  cases s.stops
  · simp [DS.gone]
  · simp [DS.cut]
/-- an own row that has no element -/
theorem own_none (w : World) (base : Nat) (e : TypeId) (size : Nat) (hb : base ≤ w.heap.size) : (w.alloc (.cells #[] e)).ownsRow base e size (.slice (some ⟨w.heap.size, 0, none⟩) 0 0) 0 [] :=
  ⟨by simp, .inr ⟨w.heap.size, 0, #[], rfl, hb, heap_alloc_new _ _, Nat.le_refl _, by simp [maxLen], by simp, by simp⟩⟩
theorem elemU8' : Elem Try.prog 5 1 1 := elem_of (z := .int .u8 0) (by kernel_rfl) rfl (by omega)
theorem u8_info : ∃ i, Try.prog.info? 5 = some i ∧ i.size = 1 := by
  have h : (Try.prog.info? 5).map (·.size) = some 1 := by kernel_rfl
  cases hq : Try.prog.info? 5 with
  | none => rw [hq] at h; cases h
  | some i => exact ⟨i, rfl, by rw [hq] at h; simpa using h⟩
/-- a step's cells -/
structure StpAt (w : World) (G : Nat) (x : Stp) : Prop where
  blk : w.heap[G]? = some (.cells #[.int .i64 x.kind, .int .i64 x.i, .int .u8 (x.v.toNat : Int), .slice x.A x.keep.length x.c] 52)
  c0 : w.cell? ⟨G, 0, none⟩ = some (.int .i64 x.kind)
  c1 : w.cell? ⟨G, 1, none⟩ = some (.int .i64 x.i)
  c2 : w.cell? ⟨G, 2, none⟩ = some (.int .u8 (x.v.toNat : Int))
  c3 : w.cell? ⟨G, 3, none⟩ = some (.slice x.A x.keep.length x.c)
theorem StpAt.of {w : World} {G : Nat} {x : Stp} (h : w.heap[G]? = some (.cells #[.int .i64 x.kind, .int .i64 x.i, .int .u8 (x.v.toNat : Int), .slice x.A x.keep.length x.c] 52)) : StpAt w G x := ⟨h, blk_cell h rfl, blk_cell h rfl, blk_cell h rfl, blk_cell h rfl⟩
theorem StpAt.next {w w' : World} {G : Nat} {x : Stp} (h : StpAt w G x) (hb : w'.heap[G]? = w.heap[G]?) : StpAt w' G x := .of (hb.trans h.blk)

attribute [-go_sem] Builtin.append_
set_option maxHeartbeats 8000000 in
set_option maxRecDepth 100000 in
theorem diskCounts_core {w : World} {A : Option Addr} {c : Nat} {l : List Stp} (hs : Sl w w.heap.size 4 A l.length (encS l)) (hc : l.length ≤ c) (hm : c ≤ maxLen) (hok : ∀ x ∈ l, x.Ok w) :
    Calls Try.prog 12 #[.slice A l.length c] w (Ret w (.bool true)) := by
  have hn := fun W => new_any 16 (by omega) (by omega) W
  have hm2 : l.length ≤ 9223372036854775807 := by simp only [maxLen] at hm; omega
  go_enter Try.func12, Try.ntmps12
  go_wp2_with fail
  refine (hn _).mono ?_
  rintro e W0 ⟨rfl, hk0, hb0⟩
  have hfair := fair_any (w := W0) (hs.next hb0) hc hm
  obtain ⟨t, ht⟩ : ∃ t, fairL l = t := ⟨_, rfl⟩
  rw [ht] at hfair
  unfold dp
  clear hn
  go_wp2_with fail
  refine hfair.mono ?_
  rintro e _ ⟨rfl, rfl⟩
  clear hfair
  cases t
  · go_wp2_with fail
    refine (wakes01_any _).mono ?_
    rintro e W2 ⟨rfl, hb2⟩
    go_wp2
    go_ret
    exact Ret.mk rfl (hb0.trans (hb2.mono hb0.size))
  · have h200 : l.length ≤ 200 ∧ ∀ x ∈ l, x.keep.length ≤ 300 := by
      unfold fairL at ht
      simp at ht
      exact ⟨ht.2, ht.1⟩
    obtain ⟨hl2, hkp⟩ := h200
    clear ht
    go_wp2_with fail
    go_loopw [5, 6, 7] (fun d q i wr => ∃ (k : Nat) (s : DS) (v : Value), d = .int .i64 (s.done : Nat) ∧ q = .int .i64 (s.lo.length : Nat) ∧ i = .int .i64 k ∧ k ≤ l.length ∧ s.done ≤ k ∧ s.lo.length ≤ k ∧ Dk wr w.heap.size (w.heap.size + 1) w.heap.size v s ∧ Below w.heap.size w wr) (fun _ _ i _ => l.length - (intOf i).toNat)
    case atStart => exact ⟨0, DS.new 16, _, rfl, rfl, rfl, by omega, Nat.le_refl _, Nat.le_refl _, hk0, hb0⟩
    case round =>
      clear hk0 hb0
      obtain ⟨k, s, v, rfl, rfl, rfl, hk, hdk, hlk, hD, hB⟩ := hrel
      by_cases hlt : k < l.length
      · obtain ⟨x, hx⟩ : ∃ x, l[k]? = some x := ⟨_, List.getElem?_eq_getElem hlt⟩
        have hxm := List.mem_of_getElem? hx
        obtain ⟨b, o, rfl, hb, q0, q1, q2, q3⟩ := step_at (hs.below hB) hx
        have hxk := hkp x hxm
        obtain ⟨hxi, hxs, hxc, hxcm⟩ := hok x hxm
        have g1 : (k : Int) < l.length := by omega
        have hzr := hB.size
        unfold bv at q2
        clear hx hxm
        go_upto_region 9 with (fail)
        generalize hY : World.alloc _ _ = Y
        have hYx : StpAt Y wr.heap.size x := by rw [← hY]; exact .of (heap_alloc_new _ _)
        have hbY : Below wr.heap.size wr Y := by rw [← hY]; exact (Below.refl _ _).alloc (Nat.le_refl _) _
        have hDY := hD.below hbY
        have hBY := hB.trans (hbY.mono hzr)
        have hGY : wr.heap.size < Y.heap.size := (Array.getElem?_eq_some_iff.1 hYx.blk).1
        have hGo : ∀ j, Own (w.heap.size + 1) w.heap.size v j → j < wr.heap.size := fun j hj => (hD.own_ge j hj).2
        have hxsY := hxs.below (B := w.heap.size) hBY
        clear hY q0 q1 q2 q3 hD hB hbY
        obtain ⟨yb, y0, y1, y2, y3⟩ := hYx
        by_cases k0 : x.kind = 0
        · -- Write
          rw [k0] at y0
          have hq := write_cnt s x.i (fillB x.v)
          let S : World → Prop := fun w' => w'.cell? ⟨wr.heap.size, 1, none⟩ = some (.int .i64 x.i) ∧ w'.cell? ⟨wr.heap.size, 2, none⟩ = some (.int .u8 (x.v.toNat : Int))
          have hS : ∀ w', w'.heap[wr.heap.size]? = Y.heap[wr.heap.size]? → S w' := fun w' h => ⟨(World.cell?_of_block (a := ⟨wr.heap.size, 1, none⟩) h).trans y1, (World.cell?_of_block (a := ⟨wr.heap.size, 2, none⟩) h).trans y2⟩
          have HS := Lib.hid hS
          have hS0 : S Y.drew := hS _ rfl
          have hfl : ∀ W, Calls Try.prog 30 #[.int .u8 (x.v.toNat : Int)] W (Ret W (.agg (bvs (fillB x.v)).toArray)) := fun W => fill_any x.v W
          have hDd := hDY.below (w' := Y.drew) ((Below.refl _ _).drew)
          have hwr := fun W (h : Dk W w.heap.size (w.heap.size + 1) w.heap.size v s) => write_any h (by omega) (by omega) x.i (fillB_len x.v)
          unfold bkv dp at hwr
          clear hS y2 y3 yb hxs hxsY
          go_upto_region 11 with (fail)
          refine wp_region_held (S := S) (by kernel_rfl) ?_
          change wpAnyH _ _ _ _ S _ _ _ Y.drew
          refine wpAnyH_take (i := 0) (oi := ?oi_1) (v := ?v_1) ?ho_1 ?h1_1 ?h2_1 ?h3_1 ?hq_1 (Or.inl ⟨?hw_1, ?hy_1⟩) ?hs_1 ?rest_1; (case h2_1 => kernel_rfl); (case h3_1 => kernel_rfl); (case ho_1 => (simp only [List.getElem?_toArray, List.getElem?_cons_zero, List.getElem?_cons_succ]; rfl)); (case h1_1 => kernel_rfl); (case hq_1 => exact fun _ _ _ h => h); (case hw_1 => rfl); (case hy_1 => (intro w' hSw; (try simp only [S] at hSw); go_simp; (try with_reducible rfl))); (case hs_1 => assumption); (try simp only [Act.put, List.setIfInBounds_toArray, List.set_cons_zero, List.set_cons_succ])
          refine wpAnyH_take (i := 1) (oi := ?oi_2) (v := ?v_2) ?ho_2 ?h1_2 ?h2_2 ?h3_2 ?hq_2 (Or.inl ⟨?hw_2, ?hy_2⟩) ?hs_2 ?rest_2; (case h2_2 => kernel_rfl); (case h3_2 => kernel_rfl); (case ho_2 => (simp only [List.getElem?_toArray, List.getElem?_cons_zero, List.getElem?_cons_succ]; rfl)); (case h1_2 => kernel_rfl); (case hq_2 => exact fun _ _ _ h => h); (case hw_2 => rfl); (case hy_2 => (intro w' hSw; (try simp only [S] at hSw); go_simp; (try with_reducible rfl))); (case hs_2 => assumption); (try simp only [Act.put, List.setIfInBounds_toArray, List.set_cons_zero, List.set_cons_succ])
          refine wpAnyH_take (i := 2) (oi := ?oi_3) (v := ?v_3) ?ho_3 ?h1_3 ?h2_3 ?h3_3 ?hq_3 (Or.inl ⟨?hw_3, ?hy_3⟩) ?hs_3 ?rest_3; (case h2_3 => kernel_rfl); (case h3_3 => kernel_rfl); (case ho_3 => (simp only [List.getElem?_toArray, List.getElem?_cons_zero, List.getElem?_cons_succ]; rfl)); (case h1_3 => kernel_rfl); (case hq_3 => exact fun _ _ _ h => h); (case hw_3 => rfl); (case hy_3 => (intro w' hSw; (try simp only [S] at hSw); go_simp; (try with_reducible rfl))); (case hs_3 => assumption); (try simp only [Act.put, List.setIfInBounds_toArray, List.set_cons_zero, List.set_cons_succ])
          refine wpAnyH_take (i := 3) (oi := ?oi_4) (v := ?v_4) ?ho_4 ?h1_4 ?h2_4 ?h3_4 ?hq_4 (Or.inl ⟨?hw_4, ?hy_4⟩) ?hs_4 ?rest_4; (case h2_4 => kernel_rfl); (case h3_4 => kernel_rfl); (case ho_4 => (simp only [List.getElem?_toArray, List.getElem?_cons_zero, List.getElem?_cons_succ]; rfl)); (case h1_4 => kernel_rfl); (case hq_4 => exact fun _ _ _ h => h); (case hw_4 => rfl); (case hy_4 => (intro w' hSw; (try simp only [S] at hSw); go_simp; (try with_reducible rfl))); (case hs_4 => assumption); (try simp only [Act.put, List.setIfInBounds_toArray, List.set_cons_zero, List.set_cons_succ])
          refine wpAnyH_take (i := 4) (oi := ?oi_5) (v := ?v_5) ?ho_5 ?h1_5 ?h2_5 ?h3_5 ?hq_5 (Or.inl ⟨?hw_5, ?hy_5⟩) ?hs_5 ?rest_5; (case h2_5 => kernel_rfl); (case h3_5 => kernel_rfl); (case ho_5 => (simp only [List.getElem?_toArray, List.getElem?_cons_zero, List.getElem?_cons_succ]; rfl)); (case h1_5 => kernel_rfl); (case hq_5 => exact fun _ _ _ h => h); (case hw_5 => rfl); (case hy_5 => (intro w' hSw; (try simp only [S] at hSw); go_simp; (try with_reducible rfl))); (case hs_5 => assumption); (try simp only [Act.put, List.setIfInBounds_toArray, List.set_cons_zero, List.set_cons_succ])
          clear y1
          refine wpAnyH_ready (rs := [5]) (by kernel_rfl) (by simp) (AllReadyH.cons (o := ?oo5_13) ?hoo5_13 (fun K hK => ?steponly13) AllReadyH.nil); (case hoo5_13 => (simp only [List.getElem?_toArray, List.getElem?_cons_zero, List.getElem?_cons_succ]; rfl))
          go_simp
          refine (hfl _).mono ?_
          rintro e W1 ⟨rfl, hb1⟩
          have hD1 := hDd.below hb1
          have hB1 := hBY.trans (((Below.refl _ _).drew).trans (hb1.mono (by show w.heap.size ≤ Y.heap.size; omega)))
          have e1 : W1.heap[wr.heap.size]? = Y.heap[wr.heap.size]? := hb1.block _ hGY
          have hz1 : Y.heap.size ≤ W1.heap.size := hb1.size
          refine hK.out _ _ (HS.out _ e1) (fun _ => ?_)
          clear hK K
          (try simp only [Act.put, List.setIfInBounds_toArray, List.set_cons_zero, List.set_cons_succ])
          refine wpAnyH_ready (rs := [6]) (by kernel_rfl) (by simp) (AllReadyH.cons (o := ?oo6_14) ?hoo6_14 (fun K hK => ?steponly14) AllReadyH.nil); (case hoo6_14 => (simp only [List.getElem?_toArray, List.getElem?_cons_zero, List.getElem?_cons_succ]; rfl))
          go_simp
          refine (hwr _ hD1).mono ?_
          rintro e W2 ⟨rfl, v2, hD2, hs2⟩
          have hB2 := hB1.trans (hs2.below hD1)
          have e2 : W2.heap[wr.heap.size]? = Y.heap[wr.heap.size]? := (hs2.but.block _ (by omega) (fun hj => by have := hGo _ hj; omega)).trans e1
          refine hK.out _ _ (HS.out _ e2) (fun _ => ?_)
          clear hK K
          (try simp only [Act.put, List.setIfInBounds_toArray, List.set_cons_zero, List.set_cons_succ])
          clear hwr hfl hDd hD1 hDY hS0
          obtain ⟨s2, hs2e⟩ : ∃ s2, s.write x.i (fillB x.v) = s2 := ⟨_, rfl⟩
          rw [hs2e] at hD2 hq
          clear hs2e hs2
          by_cases he : s.writeE x.i = 0
          · obtain ⟨r1, r2⟩ := hq.1 he
            have R := Lib.hid (And.intro r1 r2)
            have w1 : IntKind.i64.wrap ((s.done : Int) + 1) = ((s.done + 1 : Nat) : Int) := by rw [wrap_small _ (by omega) (by omega)]; omega
            have w2 : IntKind.i64.wrap ((s.lo.length : Int) + 1) = ((s.lo.length + 1 : Nat) : Int) := by rw [wrap_small _ (by omega) (by omega)]; omega
            clear hq r1 r2
            rw [he]
            refine wpAnyH_take (i := 7) (oi := ?oi_6) (v := ?v_6) ?ho_6 ?h1_6 ?h2_6 ?h3_6 ?hq_6 (Or.inl ⟨?hw_6, ?hy_6⟩) ?hs_6 ?rest_6; (case h2_6 => kernel_rfl); (case h3_6 => kernel_rfl); (case ho_6 => (simp only [List.getElem?_toArray, List.getElem?_cons_zero, List.getElem?_cons_succ]; rfl)); (case h1_6 => kernel_rfl); (case hq_6 => exact fun _ _ _ h => h); (case hw_6 => rfl); (case hy_6 => (intro w' hSw; (try simp only [S] at hSw); go_simp; (try with_reducible rfl))); (case hs_6 => assumption); (try simp only [Act.put, List.setIfInBounds_toArray, List.set_cons_zero, List.set_cons_succ])
            refine wpAnyH_done (by kernel_rfl) ?_ _
            go_wp2_with fail
            refine (done_any hD2).mono ?_
            rintro e _ ⟨rfl, rfl⟩
            rw [R.out.1]
            go_wp2_with fail
            refine (loose_any hD2).mono ?_
            rintro e _ ⟨rfl, rfl⟩
            rw [R.out.2]
            go_wp2_with fail
            go_roundw
            case rel => exact ⟨k + 1, s2, v2, by rw [R.out.1]; try rfl, by rw [R.out.2]; try rfl, by go_num, by omega, by rw [R.out.1]; omega, by rw [R.out.2]; omega, hD2, hB2⟩
            case measure => simp [intOf]; omega
          · obtain ⟨r1, r2⟩ := hq.2 he
            have R := Lib.hid (And.intro r1 r2)
            clear hq r1 r2
            obtain ⟨q, hqe⟩ : ∃ q, s.writeE x.i = q := ⟨_, rfl⟩
            rw [hqe] at he ⊢
            have hd0 : decide (q = 0) = false := by simp [he]
            clear hqe
            refine wpAnyH_take (i := 7) (oi := ?oi_7) (v := ?v_7) ?ho_7 ?h1_7 ?h2_7 ?h3_7 ?hq_7 (Or.inl ⟨?hw_7, ?hy_7⟩) ?hs_7 ?rest_7; (case h2_7 => kernel_rfl); (case h3_7 => kernel_rfl); (case ho_7 => (simp only [List.getElem?_toArray, List.getElem?_cons_zero, List.getElem?_cons_succ]; rfl)); (case h1_7 => kernel_rfl); (case hq_7 => exact fun _ _ _ h => h); (case hw_7 => rfl); (case hy_7 => (intro w' hSw; (try simp only [S] at hSw); go_simp; (try with_reducible rfl))); (case hs_7 => assumption); (try simp only [Act.put, List.setIfInBounds_toArray, List.set_cons_zero, List.set_cons_succ])
            refine wpAnyH_done (by kernel_rfl) ?_ _
            go_wp2_with fail
            refine (done_any hD2).mono ?_
            rintro e _ ⟨rfl, rfl⟩
            rw [R.out.1]
            go_wp2_with fail
            refine (loose_any hD2).mono ?_
            rintro e _ ⟨rfl, rfl⟩
            rw [R.out.2]
            go_wp2_with fail
            go_roundw
            case rel => exact ⟨k + 1, s2, v2, by rw [R.out.1]; try rfl, by rw [R.out.2]; try rfl, by go_num, by omega, by rw [R.out.1]; omega, by rw [R.out.2]; omega, hD2, hB2⟩
            case measure => simp [intOf]; omega
        · by_cases k1 : x.kind = 1
          · -- Read
            rw [k1] at y0
            go_wp2_with fail
            refine (read_any hDY (by omega) x.i).mono ?_
            rintro e W2 ⟨rfl, hb2⟩
            have hD2 := hDY.below hb2
            have hB2 := hBY.trans (hb2.mono (by omega))
            go_wp2_with fail
            refine (done_any hD2).mono ?_
            rintro e _ ⟨rfl, rfl⟩

            go_wp2_with fail
            refine (loose_any hD2).mono ?_
            rintro e _ ⟨rfl, rfl⟩

            go_wp2_with fail
            go_roundw
            case rel => exact ⟨k + 1, s, v, by skip; try rfl, by skip; try rfl, by go_num, by omega, by omega, by omega, hD2, hB2⟩
            case measure => simp [intOf]; omega
          · by_cases k2 : x.kind = 2
            · -- Sync
              rw [k2] at y0
              have hq := sync_cnt s
              go_wp2_with fail
              refine (sync_any hDY (by omega) (by omega)).mono ?_
              rintro e W2 ⟨rfl, v2, hD2, hs2⟩
              have hB2 := hBY.trans (hs2.below hDY)
              clear hs2 hDY
              obtain ⟨s2, hs2e⟩ : ∃ s2, s.sync = s2 := ⟨_, rfl⟩
              rw [hs2e] at hD2 hq
              clear hs2e
              by_cases he : s.passE = 0
              · obtain ⟨r1, r2⟩ := hq.1 he
                have R := Lib.hid (And.intro r1 r2)
                have w1 : IntKind.i64.wrap ((s.done : Int) + 1) = ((s.done + 1 : Nat) : Int) := by rw [wrap_small _ (by omega) (by omega)]; omega
                clear hq r1 r2
                rw [he]
                go_wp2_with fail
                refine (done_any hD2).mono ?_
                rintro e _ ⟨rfl, rfl⟩
                rw [R.out.1]
                go_wp2_with fail
                refine (loose_any hD2).mono ?_
                rintro e _ ⟨rfl, rfl⟩
                rw [R.out.2]
                go_wp2_with fail
                go_roundw
                case rel => exact ⟨k + 1, s2, v2, by rw [R.out.1]; try rfl, by rw [R.out.2]; try rfl, by go_num, by omega, by rw [R.out.1]; omega, by rw [R.out.2]; omega, hD2, hB2⟩
                case measure => simp [intOf]; omega
              · obtain ⟨r1, r2⟩ := hq.2 he
                have R := Lib.hid (And.intro r1 r2)
                clear hq r1 r2
                obtain ⟨q, hqe⟩ : ∃ q, s.passE = q := ⟨_, rfl⟩
                rw [hqe] at he ⊢
                have hd0 : decide (q = 0) = false := by simp [he]
                clear hqe
                go_wp2_with fail
                refine (done_any hD2).mono ?_
                rintro e _ ⟨rfl, rfl⟩
                rw [R.out.1]
                go_wp2_with fail
                refine (loose_any hD2).mono ?_
                rintro e _ ⟨rfl, rfl⟩
                rw [R.out.2]
                go_wp2_with fail
                go_roundw
                case rel => exact ⟨k + 1, s2, v2, by rw [R.out.1]; try rfl, by rw [R.out.2]; try rfl, by go_num, by omega, by rw [R.out.1]; omega, by rw [R.out.2]; omega, hD2, hB2⟩
                case measure => simp [intOf]; omega
            · by_cases k3 : x.kind = 3
              · -- Crash
                rw [k3] at y0
                let S : World → Prop := fun w' => w'.cell? ⟨wr.heap.size, 1, none⟩ = some (.int .i64 x.i) ∧ w'.cell? ⟨wr.heap.size, 3, none⟩ = some (.slice x.A x.keep.length x.c)
                have hS : ∀ w', w'.heap[wr.heap.size]? = Y.heap[wr.heap.size]? → S w' := fun w' h => ⟨(World.cell?_of_block (a := ⟨wr.heap.size, 1, none⟩) h).trans y1, (World.cell?_of_block (a := ⟨wr.heap.size, 3, none⟩) h).trans y3⟩
                have HS := Lib.hid hS
                have hS0 : S Y.drew := hS _ rfl
                have hDd := hDY.below (w' := Y.drew) ((Below.refl _ _).drew)
                obtain ⟨W1, hW1⟩ : ∃ W1, (Y.alloc (.cells #[] 5)).drew = W1 := ⟨_, rfl⟩
                have hb1 : Below Y.heap.size Y W1 := by rw [← hW1]; exact ((Below.refl _ _).alloc (Nat.le_refl _) _).drew
                have e1 : W1.heap[wr.heap.size]? = Y.heap[wr.heap.size]? := hb1.block _ hGY
                have hrow0 : W1.ownsRow Y.heap.size 5 1 (.slice (some ⟨Y.heap.size, 0, none⟩) 0 0) 0 [] := by rw [← hW1]; exact (own_none Y Y.heap.size 5 1 (Nat.le_refl _)).drew
                have hxs1 := hxsY.below (hb1.mono (by omega))
                have hz1 : Y.heap.size + 1 ≤ W1.heap.size := by rw [← hW1]; show _ ≤ (Y.alloc _).heap.size; simp
                obtain ⟨A2, c2, W2, hrun, hrow2, hg2, hat2⟩ := run_app (P := Try.prog) W1 (ty := 50) (t := 50) Try.underlying50 elemU8' hrow0 hxs1 (c := x.c) (oneCell_bvs _) (by simp only [maxLen]; omega) (by omega) (by omega)
                rw [Nat.zero_add, List.nil_append] at hrow2
                rw [Nat.zero_add] at hrun hat2
                have hb2 : Below Y.heap.size W1 W2 := (Below.refl _ _).grown hg2 (by omega) (fun j hj => by simp [Value.ownBlock] at hj; omega)
                have hbY2 := hb1.trans hb2
                have hD2 := hDY.below hbY2
                have hB2 := hBY.trans (hbY2.mono (by omega))
                have e2 : W2.heap[wr.heap.size]? = Y.heap[wr.heap.size]? := hbY2.block _ hGY
                have hA2 : ∀ b o, 0 < x.keep.length → A2 = some ⟨b, o, none⟩ → ¬ Own (w.heap.size + 1) w.heap.size v b := fun b o _ e hj => by
                  have h1 := hGo b hj
                  have h2 := (hrow2.lt b (by rw [e]; rfl)).1
                  omega
                have hcr := crash_any hD2 (by omega) x.keep A2 c2 (by omega) (Sl.of_own hrow2) hA2 x.i
                unfold dp at hcr
                have hS1 := HS.out _ e1
                have hS2 := HS.out _ e2
                have HR := Lib.hid (And.intro hD2 (And.intro hB2 e2))
                clear hS y2 yb hxs hxsY hxs1 hrow0 hrow2 hg2 hat2 hA2 hD2 hB2 e2 e1 hb1 hb2 hbY2 hDY hDd hz1
                go_upto_region 21 with (fail)
                refine wp_region_held (S := S) (by kernel_rfl) ?_
                change wpAnyH _ _ _ _ S _ _ _ Y.drew
                refine wpAnyH_take (i := 0) (oi := ?oi_8) (v := ?v_8) ?ho_8 ?h1_8 ?h2_8 ?h3_8 ?hq_8 (Or.inl ⟨?hw_8, ?hy_8⟩) ?hs_8 ?rest_8; (case h2_8 => kernel_rfl); (case h3_8 => kernel_rfl); (case ho_8 => (simp only [List.getElem?_toArray, List.getElem?_cons_zero, List.getElem?_cons_succ]; rfl)); (case h1_8 => kernel_rfl); (case hq_8 => exact fun _ _ _ h => h); (case hw_8 => rfl); (case hy_8 => (intro w' hSw; (try simp only [S] at hSw); go_simp; (try with_reducible rfl))); (case hs_8 => assumption); (try simp only [Act.put, List.setIfInBounds_toArray, List.set_cons_zero, List.set_cons_succ])
                refine wpAnyH_take (i := 2) (oi := ?oi_9) (v := ?v_9) ?ho_9 ?h1_9 ?h2_9 ?h3_9 ?hq_9 (Or.inl ⟨?hw_9, ?hy_9⟩) ?hs_9 ?rest_9; (case h2_9 => kernel_rfl); (case h3_9 => kernel_rfl); (case ho_9 => (simp only [List.getElem?_toArray, List.getElem?_cons_zero, List.getElem?_cons_succ]; rfl)); (case h1_9 => kernel_rfl); (case hq_9 => exact fun _ _ _ h => h); (case hw_9 => rfl); (case hy_9 => (intro w' hSw; (try simp only [S] at hSw); go_simp; (try with_reducible rfl))); (case hs_9 => assumption); (try simp only [Act.put, List.setIfInBounds_toArray, List.set_cons_zero, List.set_cons_succ])
                refine wpAnyH_take (i := 3) (oi := ?oi_10) (v := ?v_10) ?ho_10 ?h1_10 ?h2_10 ?h3_10 ?hq_10 (Or.inl ⟨?hw_10, ?hy_10⟩) ?hs_10 ?rest_10; (case h2_10 => kernel_rfl); (case h3_10 => kernel_rfl); (case ho_10 => (simp only [List.getElem?_toArray, List.getElem?_cons_zero, List.getElem?_cons_succ]; rfl)); (case h1_10 => kernel_rfl); (case hq_10 => exact fun _ _ _ h => h); (case hw_10 => rfl); (case hy_10 => (intro w' hSw; (try simp only [S] at hSw); go_simp; (try with_reducible rfl))); (case hs_10 => assumption); (try simp only [Act.put, List.setIfInBounds_toArray, List.set_cons_zero, List.set_cons_succ])
                refine wpAnyH_take (i := 5) (oi := ?oi_11) (v := ?v_11) ?ho_11 ?h1_11 ?h2_11 ?h3_11 ?hq_11 (Or.inl ⟨?hw_11, ?hy_11⟩) ?hs_11 ?rest_11; (case h2_11 => kernel_rfl); (case h3_11 => kernel_rfl); (case ho_11 => (simp only [List.getElem?_toArray, List.getElem?_cons_zero, List.getElem?_cons_succ]; rfl)); (case h1_11 => kernel_rfl); (case hq_11 => exact fun _ _ _ h => h); (case hw_11 => rfl); (case hy_11 => (intro w' hSw; (try simp only [S] at hSw); go_simp; (try with_reducible rfl))); (case hs_11 => assumption); (try simp only [Act.put, List.setIfInBounds_toArray, List.set_cons_zero, List.set_cons_succ])
                refine wpAnyH_take (i := 6) (oi := ?oi_12) (v := ?v_12) ?ho_12 ?h1_12 ?h2_12 ?h3_12 ?hq_12 (Or.inl ⟨?hw_12, ?hy_12⟩) ?hs_12 ?rest_12; (case h2_12 => kernel_rfl); (case h3_12 => kernel_rfl); (case ho_12 => (simp only [List.getElem?_toArray, List.getElem?_cons_zero, List.getElem?_cons_succ]; rfl)); (case h1_12 => kernel_rfl); (case hq_12 => exact fun _ _ _ h => h); (case hw_12 => rfl); (case hy_12 => (intro w' hSw; (try simp only [S] at hSw); go_simp; (try with_reducible rfl))); (case hs_12 => assumption); (try simp only [Act.put, List.setIfInBounds_toArray, List.set_cons_zero, List.set_cons_succ])
                clear y1 y3
                refine wpAnyH_ready (rs := [1]) (by kernel_rfl) (by simp) (AllReadyH.cons (o := ?oo1_15) ?hoo1_15 (fun K hK => ?steponly15) AllReadyH.nil); (case hoo1_15 => (simp only [List.getElem?_toArray, List.getElem?_cons_zero, List.getElem?_cons_succ]; rfl))
                go_simp
                refine hK.out _ _ hS1 (fun _ => ?_)
                clear hK K
                (try simp only [Act.put, List.setIfInBounds_toArray, List.set_cons_zero, List.set_cons_succ])
                refine wpAnyH_ready (rs := [4]) (by kernel_rfl) (by simp) (AllReadyH.cons (o := ?oo4_16) ?hoo4_16 (fun K hK => ?steponly16) AllReadyH.nil); (case hoo4_16 => (simp only [List.getElem?_toArray, List.getElem?_cons_zero, List.getElem?_cons_succ]; rfl))
                go_simp
                refine hK.out _ _ hS2 (fun _ => ?_)
                clear hK K
                (try simp only [Act.put, List.setIfInBounds_toArray, List.set_cons_zero, List.set_cons_succ])
                refine wpAnyH_ready (rs := [7]) (by kernel_rfl) (by simp) (AllReadyH.cons (o := ?oo7_17) ?hoo7_17 (fun K hK => ?steponly17) AllReadyH.nil); (case hoo7_17 => (simp only [List.getElem?_toArray, List.getElem?_cons_zero, List.getElem?_cons_succ]; rfl))
                go_simp
                refine hcr.mono ?_
                rintro e W3 ⟨rfl, v3, hD3, hs3⟩
                have hB3 := HR.out.2.1.trans (hs3.below HR.out.1)
                have e3 : W3.heap[wr.heap.size]? = Y.heap[wr.heap.size]? := (hs3.but.block _ (by have := hs3.but.size; have h := (Array.getElem?_eq_some_iff.1 (HR.out.2.2.trans (Array.getElem?_eq_getElem hGY))).1; omega) (fun hj => by have := hGo _ hj; omega)).trans HR.out.2.2
                refine hK.out _ _ (HS.out _ e3) (fun _ => ?_)
                clear hK K
                (try simp only [Act.put, List.setIfInBounds_toArray, List.set_cons_zero, List.set_cons_succ])
                refine wpAnyH_done (by kernel_rfl) ?_ _
                clear hcr hs3 e3
                have hcd : (s.crash x.keep x.i).done = s.done := rfl
                have hcl : (s.crash x.keep x.i).lo.length = 0 := rfl
                obtain ⟨s3, hs3e⟩ : ∃ s3, s.crash x.keep x.i = s3 := ⟨_, rfl⟩
                rw [hs3e] at hD3 hcd hcl
                clear hs3e
                have R := Lib.hid (And.intro hcd hcl)
                clear hcd hcl
                go_wp2_with fail
                refine (done_any hD3).mono ?_
                rintro e _ ⟨rfl, rfl⟩
                rw [R.out.1]
                go_wp2_with fail
                refine (loose_any hD3).mono ?_
                rintro e _ ⟨rfl, rfl⟩
                rw [R.out.2]
                go_wp2_with fail
                go_roundw
                case rel => exact ⟨k + 1, s3, v3, by rw [R.out.1]; try rfl, by rw [R.out.2]; try rfl, by go_num, by omega, by rw [R.out.1]; omega, by rw [R.out.2]; omega, hD3, hB3⟩
                case measure => simp [intOf]; omega
              · by_cases k4 : x.kind = 4
                · -- Fuse
                  rw [k4] at y0
                  go_wp2_with fail
                  refine (fuse_any hDY x.i hxi.2).mono ?_
                  rintro e W2 ⟨rfl, hD2, hs2⟩
                  have hB2 := hBY.trans ((DStep.of_but hs2).below hDY)
                  have hcd : (s.fuseTo x.i).done = s.done := rfl
                  have hcl : (s.fuseTo x.i).lo.length = s.lo.length := rfl
                  obtain ⟨s3, hs3e⟩ : ∃ s3, s.fuseTo x.i = s3 := ⟨_, rfl⟩
                  rw [hs3e] at hD2 hcd hcl
                  clear hs3e
                  have R := Lib.hid (And.intro hcd hcl)
                  clear hcd hcl
                  go_wp2_with fail
                  refine (done_any hD2).mono ?_
                  rintro e _ ⟨rfl, rfl⟩
                  rw [R.out.1]
                  go_wp2_with fail
                  refine (loose_any hD2).mono ?_
                  rintro e _ ⟨rfl, rfl⟩
                  rw [R.out.2]
                  go_wp2_with fail
                  go_roundw
                  case rel => exact ⟨k + 1, s3, v, by rw [R.out.1]; try rfl, by rw [R.out.2]; try rfl, by go_num, by omega, by rw [R.out.1]; omega, by rw [R.out.2]; omega, hD2, hB2⟩
                  case measure => simp [intOf]; omega
                · -- none of these
                  have d0 : decide (x.kind = 0) = false := by simp [k0]
                  have d1 : decide (x.kind = 1) = false := by simp [k1]
                  have d2 : decide (x.kind = 2) = false := by simp [k2]
                  have d3 : decide (x.kind = 3) = false := by simp [k3]
                  have d4 : decide (x.kind = 4) = false := by simp [k4]
                  go_wp2_with fail
                  refine (done_any hDY).mono ?_
                  rintro e _ ⟨rfl, rfl⟩

                  go_wp2_with fail
                  refine (loose_any hDY).mono ?_
                  rintro e _ ⟨rfl, rfl⟩

                  go_wp2_with fail
                  go_roundw
                  case rel => exact ⟨k + 1, s, v, by skip; try rfl, by skip; try rfl, by go_num, by omega, by omega, by omega, hDY, hBY⟩
                  case measure => simp [intOf]; omega
      · obtain rfl : k = l.length := by omega
        have g1 : ¬ (l.length : Int) < l.length := by omega
        clear hs
        go_wp2_with fail
        refine (wakes01_any _).mono ?_
        rintro e W2 ⟨rfl, hb2⟩
        go_wp2
        go_ret
        exact Ret.mk rfl (hB.trans (hb2.mono hB.size))

set_option maxRecDepth 100000 in
theorem diskCounts_walk {H : Type} {enc : TypeId × Value → H} {W : World} {base : Nat} {v0 : Value} {d0 : DataW H} {p0 : List MemPlace}
    (k0 : Value.okWide Try.prog W .any base 42 v0) (h0 : DataW.Trod enc Try.prog W 0 (fun _ => true) true 42 v0 d0 p0)
    : Calls Try.prog 12 #[v0] W fun e W' => e = .returned (.bool true) ∧ Below W.heap.size W W' := by
  obtain ⟨A, c, l, rfl, h1, h2, h3, h4⟩ := open_steps k0 h0
  exact diskCounts_core h3 h1 h2 h4
end Go.Proofs.Ythbaogjamenndaa
