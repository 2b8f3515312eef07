/- The walks over the reference's One and Good. (s7/lfref1.py writes it.) -/
import Derived.Test.YthmjkgpfnpdddaaLfGood
namespace Go.Proofs.Ythmjkgpfnpdddaa
set_option linter.unusedSimpArgs false
set_option linter.unusedVariables false
open Go.RowKit Go.ChangeShapes Go.WideShapes Go.Sort
set_option maxHeartbeats 16000000 in
set_option maxRecDepth 100000 in
theorem one_any {x : EN} (hx : x.Ok) (w : World) : Calls Try.prog 49 #[env x] w (Ret w (.bool x.one)) := by
  have hways : (x.place < 2) ∨ (2 ≤ x.place ∧ 128 ≤ x.place) ∨ (2 ≤ x.place ∧ x.place ≤ 127 ∧ x.blocks < 1) ∨ (2 ≤ x.place ∧ x.place ≤ 127 ∧ 1 ≤ x.blocks ∧ 8 < x.blocks) ∨ (2 ≤ x.place ∧ x.place ≤ 127 ∧ 1 ≤ x.blocks ∧ x.blocks ≤ 8 ∧ 128 < x.place + x.blocks) ∨ (2 ≤ x.place ∧ x.place ≤ 127 ∧ 1 ≤ x.blocks ∧ x.blocks ≤ 8 ∧ x.place + x.blocks ≤ 128 ∧ x.refs < 0) ∨ (2 ≤ x.place ∧ x.place ≤ 127 ∧ 1 ≤ x.blocks ∧ x.blocks ≤ 8 ∧ x.place + x.blocks ≤ 128 ∧ 0 ≤ x.refs ∧ 1000 < x.refs) ∨ (2 ≤ x.place ∧ x.place ≤ 127 ∧ 1 ≤ x.blocks ∧ x.blocks ≤ 8 ∧ x.place + x.blocks ≤ 128 ∧ 0 ≤ x.refs ∧ x.refs ≤ 1000) := by omega
  have ho := EN.one_iff x
  have hr := fun (W : World) (g : Nat) (h : W.heap[g]? = some (.cells x.cells.toArray 73)) => en_range hx (range_blk h)
  unfold env
  obtain ⟨cs, hcs⟩ : ∃ q, x.cells.toArray = q := ⟨_, rfl⟩
  simp only [hcs] at hr
  rw [hcs]
  clear hcs
  go_enter Try.func49, Try.ntmps49
  go_upto_region 1 with (fail)
  obtain ⟨W, hW⟩ : ∃ W, w.alloc (.cells cs 73) = W := ⟨_, rfl⟩
  try rw [hW]
  have a1 : W.heap[w.heap.size]? = some (.cells cs 73) := by rw [← hW]; exact heap_alloc_new _ _
  have hB : Below w.heap.size w W := by rw [← hW]; exact (Below.refl _ _).alloc (Nat.le_refl _) _
  obtain ⟨-, c32, c33, c34⟩ := hr W _ a1
  rw [Nat.zero_add] at c32 c33 c34
  have HO := Lib.hid ho
  clear hW hr a1 ho
  rcases hways with g0 | ⟨g0, g1⟩ | ⟨g0, g1, g2⟩ | ⟨g0, g1, g2, g3⟩ | ⟨g0, g1, g2, g3, g4⟩ | ⟨g0, g1, g2, g3, g4, g5⟩ | ⟨g0, g1, g2, g3, g4, g5, g6⟩ | ⟨g0, g1, g2, g3, g4, g5, g6⟩
  · have hres : x.one = false := by cases h : x.one; rfl; have := HO.out.1 h; omega
    have n0 : ¬ (2 ≤ x.place) := by omega
    have d0 : decide (2 ≤ x.place) = false := decide_eq_false n0
    have HR := Lib.hid hres
    clear hres
    go_wp2_with fail
    go_ret
    exact Ret.mk (vbool (by rw [HR.out])) hB
  · have hres : x.one = false := by cases h : x.one; rfl; have := HO.out.1 h; omega
    have d0 : decide (2 ≤ x.place) = true := decide_eq_true (by omega)
    have n1 : ¬ (x.place ≤ 127) := by omega
    have d1 : decide (x.place ≤ 127) = false := decide_eq_false n1
    have HR := Lib.hid hres
    clear hres
    go_wp2_with fail
    go_ret
    exact Ret.mk (vbool (by rw [HR.out])) hB
  · have hres : x.one = false := by cases h : x.one; rfl; have := HO.out.1 h; omega
    have d0 : decide (2 ≤ x.place) = true := decide_eq_true (by omega)
    have d1 : decide (x.place ≤ 127) = true := decide_eq_true (by omega)
    have n2 : ¬ (1 ≤ x.blocks) := by omega
    have d2 : decide (1 ≤ x.blocks) = false := decide_eq_false n2
    have HR := Lib.hid hres
    clear hres
    go_wp2_with fail
    go_ret
    exact Ret.mk (vbool (by rw [HR.out])) hB
  · have hres : x.one = false := by cases h : x.one; rfl; have := HO.out.1 h; omega
    have d0 : decide (2 ≤ x.place) = true := decide_eq_true (by omega)
    have d1 : decide (x.place ≤ 127) = true := decide_eq_true (by omega)
    have d2 : decide (1 ≤ x.blocks) = true := decide_eq_true (by omega)
    have n3 : ¬ (x.blocks ≤ 8) := by omega
    have d3 : decide (x.blocks ≤ 8) = false := decide_eq_false n3
    have HR := Lib.hid hres
    clear hres
    go_wp2_with fail
    go_ret
    exact Ret.mk (vbool (by rw [HR.out])) hB
  · have hres : x.one = false := by cases h : x.one; rfl; have := HO.out.1 h; omega
    have d0 : decide (2 ≤ x.place) = true := decide_eq_true (by omega)
    have d1 : decide (x.place ≤ 127) = true := decide_eq_true (by omega)
    have d2 : decide (1 ≤ x.blocks) = true := decide_eq_true (by omega)
    have d3 : decide (x.blocks ≤ 8) = true := decide_eq_true (by omega)
    have n4 : ¬ (x.place + x.blocks ≤ 128) := by omega
    have d4 : decide (x.place + x.blocks ≤ 128) = false := decide_eq_false n4
    have w26 : IntKind.i64.wrap (x.place + x.blocks) = x.place + x.blocks := wrap_small _ (by omega) (by omega)
    have HR := Lib.hid hres
    clear hres
    go_wp2_with fail
    go_ret
    exact Ret.mk (vbool (by rw [HR.out])) hB
  · have hres : x.one = false := by cases h : x.one; rfl; have := HO.out.1 h; omega
    have d0 : decide (2 ≤ x.place) = true := decide_eq_true (by omega)
    have d1 : decide (x.place ≤ 127) = true := decide_eq_true (by omega)
    have d2 : decide (1 ≤ x.blocks) = true := decide_eq_true (by omega)
    have d3 : decide (x.blocks ≤ 8) = true := decide_eq_true (by omega)
    have d4 : decide (x.place + x.blocks ≤ 128) = true := decide_eq_true (by omega)
    have n5 : ¬ (0 ≤ x.refs) := by omega
    have d5 : decide (0 ≤ x.refs) = false := decide_eq_false n5
    have w26 : IntKind.i64.wrap (x.place + x.blocks) = x.place + x.blocks := wrap_small _ (by omega) (by omega)
    have HR := Lib.hid hres
    clear hres
    go_wp2_with fail
    go_ret
    exact Ret.mk (vbool (by rw [HR.out])) hB
  · have hres : x.one = false := by cases h : x.one; rfl; have := HO.out.1 h; omega
    have d0 : decide (2 ≤ x.place) = true := decide_eq_true (by omega)
    have d1 : decide (x.place ≤ 127) = true := decide_eq_true (by omega)
    have d2 : decide (1 ≤ x.blocks) = true := decide_eq_true (by omega)
    have d3 : decide (x.blocks ≤ 8) = true := decide_eq_true (by omega)
    have d4 : decide (x.place + x.blocks ≤ 128) = true := decide_eq_true (by omega)
    have d5 : decide (0 ≤ x.refs) = true := decide_eq_true (by omega)
    have n6 : ¬ (x.refs ≤ 1000) := by omega
    have d6 : decide (x.refs ≤ 1000) = false := decide_eq_false n6
    have w26 : IntKind.i64.wrap (x.place + x.blocks) = x.place + x.blocks := wrap_small _ (by omega) (by omega)
    have HR := Lib.hid hres
    clear hres
    go_wp2_with fail
    go_ret
    exact Ret.mk (vbool (by rw [HR.out])) hB
  · have hres : x.one = true := HO.out.2 (by omega)
    have d0 : decide (2 ≤ x.place) = true := decide_eq_true (by omega)
    have d1 : decide (x.place ≤ 127) = true := decide_eq_true (by omega)
    have d2 : decide (1 ≤ x.blocks) = true := decide_eq_true (by omega)
    have d3 : decide (x.blocks ≤ 8) = true := decide_eq_true (by omega)
    have d4 : decide (x.place + x.blocks ≤ 128) = true := decide_eq_true (by omega)
    have d5 : decide (0 ≤ x.refs) = true := decide_eq_true (by omega)
    have d6 : decide (x.refs ≤ 1000) = true := decide_eq_true (by omega)
    have w26 : IntKind.i64.wrap (x.place + x.blocks) = x.place + x.blocks := wrap_small _ (by omega) (by omega)
    have HR := Lib.hid hres
    clear hres
    go_wp2_with fail
    go_ret
    exact Ret.mk (vbool (by rw [HR.out])) hB
theorem okTo_part {l : List EN} {n k : Nat} (h : okTo l n) (hk : k ≤ n) : okTo l k := fun j hj => h j (by omega)
set_option maxHeartbeats 16000000 in
set_option maxRecDepth 100000 in
theorem rgood_any {A : Option Addr} {n c : Nat} {l : List EN} (w : World) (h : LfAt w w.heap.size A n c l) (hn : n ≤ 9223372036854775807) : Calls Try.prog 33 #[.slice A n c] w (Ret w (.bool (goodE l))) := by
  have hln := h.len
  have HL := Lib.hid (And.intro hln h)
  clear hln h
  go_enter Try.func33, Try.ntmps33
  go_wp2_with fail
  go_loopw [3] (fun si wr => ∃ k : Nat, k ≤ n ∧ si = .int .i64 k ∧ Below w.heap.size w wr ∧ okTo l k) (fun i _ => n - (intOf i).toNat)
  case atStart => exact ⟨0, by omega, rfl, Below.refl _ _, fun j hj => absurd hj (by omega)⟩
  case round =>
    obtain ⟨k, hk, rfl, hbr, hto⟩ := hrel
    by_cases hlt : k < n
    · obtain ⟨x, hx⟩ : ∃ x, l[k]? = some x := ⟨_, List.getElem?_eq_getElem (by rw [HL.out.1]; exact hlt)⟩
      have hxo := HL.out.2.ok x (List.mem_of_getElem? hx)
      obtain ⟨b, o, rfl, hbB, hxr⟩ := HL.out.2.entry hx
      replace hxr := bRange hbr (by omega) hxr
      have hi1 : (k : Int) < (n : Int) := by omega
      have hxli := en_linfo hxo
      have hst : Hid (okTo l (k + 1) ↔ okTo l k ∧ stepOk l k x = true) := Lib.hid (okTo_succ hx)
      have hzr := hbr.size
      have hbl : b < wr.heap.size := by omega
      have honeC := fun W => one_any hxo W
      unfold env at honeC
      have rk := (en_range hxo hxr).1
      have hkey := hxo.key
      have HT := Lib.hid (And.intro hto hbr)
      clear hx hto hbr
      go_upto_region 4 with (fail)
      (try simp only [Act.put, List.setIfInBounds_toArray, List.set_cons_zero, List.set_cons_succ])
      go_cut [34] from 10 to 34 (fun s wx => s = .bool (!(stepOk l k x)) ∧ Below wr.heap.size wr wx)
      case first =>
        have iD : (Try.prog.info? 71).map (·.size) = some (bvs x.key).length := by rw [bvs_len, hkey]; exact d32_size
        let S : World → Prop := fun w' => Below wr.heap.size wr w'
        have hS0 : S wr.drew := (Below.refl _ _).drew
        have rx := fun w' (h : S w') => bRange (show Below wr.heap.size wr w' from h) hbl hxr
        have rk' := fun w' (h : S w') => bRange (show Below wr.heap.size wr w' from h) hbl rk
        clear hxr rk
        cases ho : x.one
        · have hres : stepOk l k x = false := by unfold stepOk; rw [ho]; rfl
          rw [ho] at honeC
          clear ho
          refine wp_region_held (S := S) (by kernel_rfl) ?_
          change wpAnyH _ _ _ _ S _ _ _ wr.drew
          refine wpAnyH_take (i := 0) (oi := ?oi_67) (v := ?v_67) ?ho_67 ?h1_67 ?h2_67 ?h3_67 ?hq_67 (Or.inl ⟨?hw_67, ?hy_67⟩) ?hs_67 ?rest_67; (case h2_67 => kernel_rfl); (case h3_67 => kernel_rfl); (case ho_67 => (simp only [List.getElem?_toArray, List.getElem?_cons_zero, List.getElem?_cons_succ]; rfl)); (case h1_67 => kernel_rfl); (case hq_67 => exact fun _ _ _ h => h); (case hw_67 => rfl); (case hy_67 => (intro w' hSw; (try simp only [S] at hSw); go_simp; (try with_reducible rfl))); (case hs_67 => assumption); (try simp only [Act.put, List.setIfInBounds_toArray, List.set_cons_zero, List.set_cons_succ])
          refine wpAnyH_take (i := 1) (oi := ?oi_68) (v := ?v_68) ?ho_68 ?h1_68 ?h2_68 ?h3_68 ?hq_68 (Or.inl ⟨?hw_68, ?hy_68⟩) ?hs_68 ?rest_68; (case h2_68 => kernel_rfl); (case h3_68 => kernel_rfl); (case ho_68 => (simp only [List.getElem?_toArray, List.getElem?_cons_zero, List.getElem?_cons_succ]; rfl)); (case h1_68 => kernel_rfl); (case hq_68 => exact fun _ _ _ h => h); (case hw_68 => rfl); (case hy_68 => (intro w' hSw; (try simp only [S] at hSw); go_simp; (try with_reducible rfl))); (case hs_68 => assumption); (try simp only [Act.put, List.setIfInBounds_toArray, List.set_cons_zero, List.set_cons_succ])
          refine wpAnyH_take (i := 2) (oi := ?oi_69) (v := ?v_69) ?ho_69 ?h1_69 ?h2_69 ?h3_69 ?hq_69 (Or.inl ⟨?hw_69, ?hy_69⟩) ?hs_69 ?rest_69; (case h2_69 => kernel_rfl); (case h3_69 => kernel_rfl); (case ho_69 => (simp only [List.getElem?_toArray, List.getElem?_cons_zero, List.getElem?_cons_succ]; rfl)); (case h1_69 => kernel_rfl); (case hq_69 => exact fun _ _ _ h => h); (case hw_69 => rfl); (case hy_69 => (intro w' hSw; (try simp only [S] at hSw); go_simp; (try with_reducible rfl))); (case hs_69 => assumption); (try simp only [Act.put, List.setIfInBounds_toArray, List.set_cons_zero, List.set_cons_succ])
          refine wpAnyH_take (i := 3) (oi := ?oi_123) (v := ?v_123) ?ho_123 ?h1_123 ?h2_123 ?h3_123 ?hq_123 (Or.inl ⟨?hw_123, ?hy_123⟩) ?hs_123 ?rest_123; (case h2_123 => kernel_rfl); (case h3_123 => kernel_rfl); (case ho_123 => (simp only [List.getElem?_toArray, List.getElem?_cons_zero, List.getElem?_cons_succ]; rfl)); (case h1_123 => kernel_rfl); (case hq_123 => exact fun _ _ _ h => h); (case hw_123 => rfl); (case hy_123 => (intro w' hSw; refine exec_load_row (x := .tmp 12) ?_ ?_ (rx w' hSw) Try.underlying73 ?_ hxli <;> rfl)); (case hs_123 => assumption); (try simp only [Act.put, List.setIfInBounds_toArray, List.set_cons_zero, List.set_cons_succ])
          refine wpAnyH_ready (rs := [4]) (by kernel_rfl) (by simp) (AllReadyH.cons (o := ?oo4_131) ?hoo4_131 (fun K hK => ?steponly131) AllReadyH.nil); (case hoo4_131 => (simp only [List.getElem?_toArray, List.getElem?_cons_zero, List.getElem?_cons_succ]; rfl))
          go_simp
          refine Calls.mono (honeC _) ?_
          rintro e w14 ⟨rfl, hb14⟩
          have hS1 : S w14 := hS0.trans (hb14.mono (Nat.le_refl _))
          refine hK.out _ _ hS1 (fun _ => ?_)
          clear hK K
          (try simp only [Act.put, List.setIfInBounds_toArray, List.set_cons_zero, List.set_cons_succ])
          refine wpAnyH_take (i := 5) (oi := ?oi_70) (v := ?v_70) ?ho_70 ?h1_70 ?h2_70 ?h3_70 ?hq_70 (Or.inl ⟨?hw_70, ?hy_70⟩) ?hs_70 ?rest_70; (case h2_70 => kernel_rfl); (case h3_70 => kernel_rfl); (case ho_70 => (simp only [List.getElem?_toArray, List.getElem?_cons_zero, List.getElem?_cons_succ]; rfl)); (case h1_70 => kernel_rfl); (case hq_70 => exact fun _ _ _ h => h); (case hw_70 => rfl); (case hy_70 => (intro w' hSw; (try simp only [S] at hSw); go_simp; (try with_reducible rfl))); (case hs_70 => assumption); (try simp only [Act.put, List.setIfInBounds_toArray, List.set_cons_zero, List.set_cons_succ])
          refine wpAnyH_take (i := 6) (oi := ?oi_71) (v := ?v_71) ?ho_71 ?h1_71 ?h2_71 ?h3_71 ?hq_71 (Or.inl ⟨?hw_71, ?hy_71⟩) ?hs_71 ?rest_71; (case h2_71 => kernel_rfl); (case h3_71 => kernel_rfl); (case ho_71 => (simp only [List.getElem?_toArray, List.getElem?_cons_zero, List.getElem?_cons_succ]; rfl)); (case h1_71 => kernel_rfl); (case hq_71 => exact fun _ _ _ h => h); (case hw_71 => rfl); (case hy_71 => (intro w' hSw; (try simp only [S] at hSw); go_simp; (try with_reducible rfl))); (case hs_71 => assumption); (try simp only [Act.put, List.setIfInBounds_toArray, List.set_cons_zero, List.set_cons_succ])
          refine wpAnyH_take (i := 7) (oi := ?oi_37) (v := undef) ?ho_37 ?h1_37 ?h2_37 ?h3_37 ?hq_37 (Or.inr ⟨?hw_37, ?hy_37⟩) ?hs_37 ?rest_37; (case h2_37 => kernel_rfl); (case h3_37 => kernel_rfl); (case ho_37 => (simp only [List.getElem?_toArray, List.getElem?_cons_zero, List.getElem?_cons_succ]; rfl)); (case h1_37 => kernel_rfl); (case hq_37 => exact fun _ _ _ h => h); (case hw_37 => rfl); (case hy_37 => rfl); (case hs_37 => assumption); (try simp only [Act.put, List.setIfInBounds_toArray, List.set_cons_zero, List.set_cons_succ])
          refine wpAnyH_take (i := 8) (oi := ?oi_38) (v := undef) ?ho_38 ?h1_38 ?h2_38 ?h3_38 ?hq_38 (Or.inr ⟨?hw_38, ?hy_38⟩) ?hs_38 ?rest_38; (case h2_38 => kernel_rfl); (case h3_38 => kernel_rfl); (case ho_38 => (simp only [List.getElem?_toArray, List.getElem?_cons_zero, List.getElem?_cons_succ]; rfl)); (case h1_38 => kernel_rfl); (case hq_38 => exact fun _ _ _ h => h); (case hw_38 => rfl); (case hy_38 => rfl); (case hs_38 => assumption); (try simp only [Act.put, List.setIfInBounds_toArray, List.set_cons_zero, List.set_cons_succ])
          refine wpAnyH_take (i := 9) (oi := ?oi_39) (v := undef) ?ho_39 ?h1_39 ?h2_39 ?h3_39 ?hq_39 (Or.inr ⟨?hw_39, ?hy_39⟩) ?hs_39 ?rest_39; (case h2_39 => kernel_rfl); (case h3_39 => kernel_rfl); (case ho_39 => (simp only [List.getElem?_toArray, List.getElem?_cons_zero, List.getElem?_cons_succ]; rfl)); (case h1_39 => kernel_rfl); (case hq_39 => exact fun _ _ _ h => h); (case hw_39 => rfl); (case hy_39 => rfl); (case hs_39 => assumption); (try simp only [Act.put, List.setIfInBounds_toArray, List.set_cons_zero, List.set_cons_succ])
          refine wpAnyH_take (i := 10) (oi := ?oi_40) (v := undef) ?ho_40 ?h1_40 ?h2_40 ?h3_40 ?hq_40 (Or.inr ⟨?hw_40, ?hy_40⟩) ?hs_40 ?rest_40; (case h2_40 => kernel_rfl); (case h3_40 => kernel_rfl); (case ho_40 => (simp only [List.getElem?_toArray, List.getElem?_cons_zero, List.getElem?_cons_succ]; rfl)); (case h1_40 => kernel_rfl); (case hq_40 => exact fun _ _ _ h => h); (case hw_40 => rfl); (case hy_40 => rfl); (case hs_40 => assumption); (try simp only [Act.put, List.setIfInBounds_toArray, List.set_cons_zero, List.set_cons_succ])
          refine wpAnyH_take (i := 11) (oi := ?oi_41) (v := undef) ?ho_41 ?h1_41 ?h2_41 ?h3_41 ?hq_41 (Or.inr ⟨?hw_41, ?hy_41⟩) ?hs_41 ?rest_41; (case h2_41 => kernel_rfl); (case h3_41 => kernel_rfl); (case ho_41 => (simp only [List.getElem?_toArray, List.getElem?_cons_zero, List.getElem?_cons_succ]; rfl)); (case h1_41 => kernel_rfl); (case hq_41 => exact fun _ _ _ h => h); (case hw_41 => rfl); (case hy_41 => rfl); (case hs_41 => assumption); (try simp only [Act.put, List.setIfInBounds_toArray, List.set_cons_zero, List.set_cons_succ])
          refine wpAnyH_take (i := 12) (oi := ?oi_42) (v := undef) ?ho_42 ?h1_42 ?h2_42 ?h3_42 ?hq_42 (Or.inr ⟨?hw_42, ?hy_42⟩) ?hs_42 ?rest_42; (case h2_42 => kernel_rfl); (case h3_42 => kernel_rfl); (case ho_42 => (simp only [List.getElem?_toArray, List.getElem?_cons_zero, List.getElem?_cons_succ]; rfl)); (case h1_42 => kernel_rfl); (case hq_42 => exact fun _ _ _ h => h); (case hw_42 => rfl); (case hy_42 => rfl); (case hs_42 => assumption); (try simp only [Act.put, List.setIfInBounds_toArray, List.set_cons_zero, List.set_cons_succ])
          refine wpAnyH_take (i := 13) (oi := ?oi_43) (v := undef) ?ho_43 ?h1_43 ?h2_43 ?h3_43 ?hq_43 (Or.inr ⟨?hw_43, ?hy_43⟩) ?hs_43 ?rest_43; (case h2_43 => kernel_rfl); (case h3_43 => kernel_rfl); (case ho_43 => (simp only [List.getElem?_toArray, List.getElem?_cons_zero, List.getElem?_cons_succ]; rfl)); (case h1_43 => kernel_rfl); (case hq_43 => exact fun _ _ _ h => h); (case hw_43 => rfl); (case hy_43 => rfl); (case hs_43 => assumption); (try simp only [Act.put, List.setIfInBounds_toArray, List.set_cons_zero, List.set_cons_succ])
          refine wpAnyH_take (i := 14) (oi := ?oi_44) (v := undef) ?ho_44 ?h1_44 ?h2_44 ?h3_44 ?hq_44 (Or.inr ⟨?hw_44, ?hy_44⟩) ?hs_44 ?rest_44; (case h2_44 => kernel_rfl); (case h3_44 => kernel_rfl); (case ho_44 => (simp only [List.getElem?_toArray, List.getElem?_cons_zero, List.getElem?_cons_succ]; rfl)); (case h1_44 => kernel_rfl); (case hq_44 => exact fun _ _ _ h => h); (case hw_44 => rfl); (case hy_44 => rfl); (case hs_44 => assumption); (try simp only [Act.put, List.setIfInBounds_toArray, List.set_cons_zero, List.set_cons_succ])
          refine wpAnyH_take (i := 15) (oi := ?oi_45) (v := undef) ?ho_45 ?h1_45 ?h2_45 ?h3_45 ?hq_45 (Or.inr ⟨?hw_45, ?hy_45⟩) ?hs_45 ?rest_45; (case h2_45 => kernel_rfl); (case h3_45 => kernel_rfl); (case ho_45 => (simp only [List.getElem?_toArray, List.getElem?_cons_zero, List.getElem?_cons_succ]; rfl)); (case h1_45 => kernel_rfl); (case hq_45 => exact fun _ _ _ h => h); (case hw_45 => rfl); (case hy_45 => rfl); (case hs_45 => assumption); (try simp only [Act.put, List.setIfInBounds_toArray, List.set_cons_zero, List.set_cons_succ])
          refine wpAnyH_take (i := 16) (oi := ?oi_46) (v := undef) ?ho_46 ?h1_46 ?h2_46 ?h3_46 ?hq_46 (Or.inr ⟨?hw_46, ?hy_46⟩) ?hs_46 ?rest_46; (case h2_46 => kernel_rfl); (case h3_46 => kernel_rfl); (case ho_46 => (simp only [List.getElem?_toArray, List.getElem?_cons_zero, List.getElem?_cons_succ]; rfl)); (case h1_46 => kernel_rfl); (case hq_46 => exact fun _ _ _ h => h); (case hw_46 => rfl); (case hy_46 => rfl); (case hs_46 => assumption); (try simp only [Act.put, List.setIfInBounds_toArray, List.set_cons_zero, List.set_cons_succ])
          refine wpAnyH_take (i := 17) (oi := ?oi_47) (v := undef) ?ho_47 ?h1_47 ?h2_47 ?h3_47 ?hq_47 (Or.inr ⟨?hw_47, ?hy_47⟩) ?hs_47 ?rest_47; (case h2_47 => kernel_rfl); (case h3_47 => kernel_rfl); (case ho_47 => (simp only [List.getElem?_toArray, List.getElem?_cons_zero, List.getElem?_cons_succ]; rfl)); (case h1_47 => kernel_rfl); (case hq_47 => exact fun _ _ _ h => h); (case hw_47 => rfl); (case hy_47 => rfl); (case hs_47 => assumption); (try simp only [Act.put, List.setIfInBounds_toArray, List.set_cons_zero, List.set_cons_succ])
          refine wpAnyH_take (i := 18) (oi := ?oi_48) (v := undef) ?ho_48 ?h1_48 ?h2_48 ?h3_48 ?hq_48 (Or.inr ⟨?hw_48, ?hy_48⟩) ?hs_48 ?rest_48; (case h2_48 => kernel_rfl); (case h3_48 => kernel_rfl); (case ho_48 => (simp only [List.getElem?_toArray, List.getElem?_cons_zero, List.getElem?_cons_succ]; rfl)); (case h1_48 => kernel_rfl); (case hq_48 => exact fun _ _ _ h => h); (case hw_48 => rfl); (case hy_48 => rfl); (case hs_48 => assumption); (try simp only [Act.put, List.setIfInBounds_toArray, List.set_cons_zero, List.set_cons_succ])
          refine wpAnyH_take (i := 19) (oi := ?oi_49) (v := undef) ?ho_49 ?h1_49 ?h2_49 ?h3_49 ?hq_49 (Or.inr ⟨?hw_49, ?hy_49⟩) ?hs_49 ?rest_49; (case h2_49 => kernel_rfl); (case h3_49 => kernel_rfl); (case ho_49 => (simp only [List.getElem?_toArray, List.getElem?_cons_zero, List.getElem?_cons_succ]; rfl)); (case h1_49 => kernel_rfl); (case hq_49 => exact fun _ _ _ h => h); (case hw_49 => rfl); (case hy_49 => rfl); (case hs_49 => assumption); (try simp only [Act.put, List.setIfInBounds_toArray, List.set_cons_zero, List.set_cons_succ])
          refine wpAnyH_take (i := 20) (oi := ?oi_50) (v := undef) ?ho_50 ?h1_50 ?h2_50 ?h3_50 ?hq_50 (Or.inr ⟨?hw_50, ?hy_50⟩) ?hs_50 ?rest_50; (case h2_50 => kernel_rfl); (case h3_50 => kernel_rfl); (case ho_50 => (simp only [List.getElem?_toArray, List.getElem?_cons_zero, List.getElem?_cons_succ]; rfl)); (case h1_50 => kernel_rfl); (case hq_50 => exact fun _ _ _ h => h); (case hw_50 => rfl); (case hy_50 => rfl); (case hs_50 => assumption); (try simp only [Act.put, List.setIfInBounds_toArray, List.set_cons_zero, List.set_cons_succ])
          refine wpAnyH_take (i := 21) (oi := ?oi_51) (v := undef) ?ho_51 ?h1_51 ?h2_51 ?h3_51 ?hq_51 (Or.inr ⟨?hw_51, ?hy_51⟩) ?hs_51 ?rest_51; (case h2_51 => kernel_rfl); (case h3_51 => kernel_rfl); (case ho_51 => (simp only [List.getElem?_toArray, List.getElem?_cons_zero, List.getElem?_cons_succ]; rfl)); (case h1_51 => kernel_rfl); (case hq_51 => exact fun _ _ _ h => h); (case hw_51 => rfl); (case hy_51 => rfl); (case hs_51 => assumption); (try simp only [Act.put, List.setIfInBounds_toArray, List.set_cons_zero, List.set_cons_succ])
          refine wpAnyH_take (i := 22) (oi := ?oi_52) (v := undef) ?ho_52 ?h1_52 ?h2_52 ?h3_52 ?hq_52 (Or.inr ⟨?hw_52, ?hy_52⟩) ?hs_52 ?rest_52; (case h2_52 => kernel_rfl); (case h3_52 => kernel_rfl); (case ho_52 => (simp only [List.getElem?_toArray, List.getElem?_cons_zero, List.getElem?_cons_succ]; rfl)); (case h1_52 => kernel_rfl); (case hq_52 => exact fun _ _ _ h => h); (case hw_52 => rfl); (case hy_52 => rfl); (case hs_52 => assumption); (try simp only [Act.put, List.setIfInBounds_toArray, List.set_cons_zero, List.set_cons_succ])
          refine wpAnyH_take (i := 23) (oi := ?oi_53) (v := undef) ?ho_53 ?h1_53 ?h2_53 ?h3_53 ?hq_53 (Or.inr ⟨?hw_53, ?hy_53⟩) ?hs_53 ?rest_53; (case h2_53 => kernel_rfl); (case h3_53 => kernel_rfl); (case ho_53 => (simp only [List.getElem?_toArray, List.getElem?_cons_zero, List.getElem?_cons_succ]; rfl)); (case h1_53 => kernel_rfl); (case hq_53 => exact fun _ _ _ h => h); (case hw_53 => rfl); (case hy_53 => rfl); (case hs_53 => assumption); (try simp only [Act.put, List.setIfInBounds_toArray, List.set_cons_zero, List.set_cons_succ])
          refine wpAnyH_take (i := 24) (oi := ?oi_72) (v := ?v_72) ?ho_72 ?h1_72 ?h2_72 ?h3_72 ?hq_72 (Or.inl ⟨?hw_72, ?hy_72⟩) ?hs_72 ?rest_72; (case h2_72 => kernel_rfl); (case h3_72 => kernel_rfl); (case ho_72 => (simp only [List.getElem?_toArray, List.getElem?_cons_zero, List.getElem?_cons_succ]; rfl)); (case h1_72 => kernel_rfl); (case hq_72 => exact fun _ _ _ h => h); (case hw_72 => rfl); (case hy_72 => (intro w' hSw; (try simp only [S] at hSw); go_simp; (try with_reducible rfl))); (case hs_72 => assumption); (try simp only [Act.put, List.setIfInBounds_toArray, List.set_cons_zero, List.set_cons_succ])
          refine wpAnyH_done (by kernel_rfl) ?_ _
          go_wp2_with fail
          go_meet
          exact ⟨vbool (by rw [hres]; rfl), hS1⟩
        · rw [ho] at honeC
          by_cases h0 : k = 0
          · have hres : stepOk l k x = true := by unfold stepOk; rw [ho, decide_eq_true h0]; rfl
            have hi0 : ¬ 0 < (k : Int) := by omega
            have hn0 : ¬ 0 < k := by omega
            have H0 := Lib.hid h0
            clear h0 ho
            refine wp_region_held (S := S) (by kernel_rfl) ?_
            change wpAnyH _ _ _ _ S _ _ _ wr.drew
            refine wpAnyH_take (i := 0) (oi := ?oi_73) (v := ?v_73) ?ho_73 ?h1_73 ?h2_73 ?h3_73 ?hq_73 (Or.inl ⟨?hw_73, ?hy_73⟩) ?hs_73 ?rest_73; (case h2_73 => kernel_rfl); (case h3_73 => kernel_rfl); (case ho_73 => (simp only [List.getElem?_toArray, List.getElem?_cons_zero, List.getElem?_cons_succ]; rfl)); (case h1_73 => kernel_rfl); (case hq_73 => exact fun _ _ _ h => h); (case hw_73 => rfl); (case hy_73 => (intro w' hSw; (try simp only [S] at hSw); go_simp; (try with_reducible rfl))); (case hs_73 => assumption); (try simp only [Act.put, List.setIfInBounds_toArray, List.set_cons_zero, List.set_cons_succ])
            refine wpAnyH_take (i := 1) (oi := ?oi_74) (v := ?v_74) ?ho_74 ?h1_74 ?h2_74 ?h3_74 ?hq_74 (Or.inl ⟨?hw_74, ?hy_74⟩) ?hs_74 ?rest_74; (case h2_74 => kernel_rfl); (case h3_74 => kernel_rfl); (case ho_74 => (simp only [List.getElem?_toArray, List.getElem?_cons_zero, List.getElem?_cons_succ]; rfl)); (case h1_74 => kernel_rfl); (case hq_74 => exact fun _ _ _ h => h); (case hw_74 => rfl); (case hy_74 => (intro w' hSw; (try simp only [S] at hSw); go_simp; (try with_reducible rfl))); (case hs_74 => assumption); (try simp only [Act.put, List.setIfInBounds_toArray, List.set_cons_zero, List.set_cons_succ])
            refine wpAnyH_take (i := 2) (oi := ?oi_75) (v := ?v_75) ?ho_75 ?h1_75 ?h2_75 ?h3_75 ?hq_75 (Or.inl ⟨?hw_75, ?hy_75⟩) ?hs_75 ?rest_75; (case h2_75 => kernel_rfl); (case h3_75 => kernel_rfl); (case ho_75 => (simp only [List.getElem?_toArray, List.getElem?_cons_zero, List.getElem?_cons_succ]; rfl)); (case h1_75 => kernel_rfl); (case hq_75 => exact fun _ _ _ h => h); (case hw_75 => rfl); (case hy_75 => (intro w' hSw; (try simp only [S] at hSw); go_simp; (try with_reducible rfl))); (case hs_75 => assumption); (try simp only [Act.put, List.setIfInBounds_toArray, List.set_cons_zero, List.set_cons_succ])
            refine wpAnyH_take (i := 3) (oi := ?oi_124) (v := ?v_124) ?ho_124 ?h1_124 ?h2_124 ?h3_124 ?hq_124 (Or.inl ⟨?hw_124, ?hy_124⟩) ?hs_124 ?rest_124; (case h2_124 => kernel_rfl); (case h3_124 => kernel_rfl); (case ho_124 => (simp only [List.getElem?_toArray, List.getElem?_cons_zero, List.getElem?_cons_succ]; rfl)); (case h1_124 => kernel_rfl); (case hq_124 => exact fun _ _ _ h => h); (case hw_124 => rfl); (case hy_124 => (intro w' hSw; refine exec_load_row (x := .tmp 12) ?_ ?_ (rx w' hSw) Try.underlying73 ?_ hxli <;> rfl)); (case hs_124 => assumption); (try simp only [Act.put, List.setIfInBounds_toArray, List.set_cons_zero, List.set_cons_succ])
            refine wpAnyH_ready (rs := [4]) (by kernel_rfl) (by simp) (AllReadyH.cons (o := ?oo4_132) ?hoo4_132 (fun K hK => ?steponly132) AllReadyH.nil); (case hoo4_132 => (simp only [List.getElem?_toArray, List.getElem?_cons_zero, List.getElem?_cons_succ]; rfl))
            go_simp
            refine Calls.mono (honeC _) ?_
            rintro e w14 ⟨rfl, hb14⟩
            have hS1 : S w14 := hS0.trans (hb14.mono (Nat.le_refl _))
            refine hK.out _ _ hS1 (fun _ => ?_)
            clear hK K
            (try simp only [Act.put, List.setIfInBounds_toArray, List.set_cons_zero, List.set_cons_succ])
            refine wpAnyH_take (i := 5) (oi := ?oi_76) (v := ?v_76) ?ho_76 ?h1_76 ?h2_76 ?h3_76 ?hq_76 (Or.inl ⟨?hw_76, ?hy_76⟩) ?hs_76 ?rest_76; (case h2_76 => kernel_rfl); (case h3_76 => kernel_rfl); (case ho_76 => (simp only [List.getElem?_toArray, List.getElem?_cons_zero, List.getElem?_cons_succ]; rfl)); (case h1_76 => kernel_rfl); (case hq_76 => exact fun _ _ _ h => h); (case hw_76 => rfl); (case hy_76 => (intro w' hSw; (try simp only [S] at hSw); go_simp; (try with_reducible rfl))); (case hs_76 => assumption); (try simp only [Act.put, List.setIfInBounds_toArray, List.set_cons_zero, List.set_cons_succ])
            refine wpAnyH_take (i := 6) (oi := ?oi_77) (v := ?v_77) ?ho_77 ?h1_77 ?h2_77 ?h3_77 ?hq_77 (Or.inl ⟨?hw_77, ?hy_77⟩) ?hs_77 ?rest_77; (case h2_77 => kernel_rfl); (case h3_77 => kernel_rfl); (case ho_77 => (simp only [List.getElem?_toArray, List.getElem?_cons_zero, List.getElem?_cons_succ]; rfl)); (case h1_77 => kernel_rfl); (case hq_77 => exact fun _ _ _ h => h); (case hw_77 => rfl); (case hy_77 => (intro w' hSw; (try simp only [S] at hSw); go_simp; (try with_reducible rfl))); (case hs_77 => assumption); (try simp only [Act.put, List.setIfInBounds_toArray, List.set_cons_zero, List.set_cons_succ])
            refine wpAnyH_take (i := 7) (oi := ?oi_78) (v := ?v_78) ?ho_78 ?h1_78 ?h2_78 ?h3_78 ?hq_78 (Or.inl ⟨?hw_78, ?hy_78⟩) ?hs_78 ?rest_78; (case h2_78 => kernel_rfl); (case h3_78 => kernel_rfl); (case ho_78 => (simp only [List.getElem?_toArray, List.getElem?_cons_zero, List.getElem?_cons_succ]; rfl)); (case h1_78 => kernel_rfl); (case hq_78 => exact fun _ _ _ h => h); (case hw_78 => rfl); (case hy_78 => (intro w' hSw; (try simp only [S] at hSw); go_simp; (try with_reducible rfl))); (case hs_78 => assumption); (try simp only [Act.put, List.setIfInBounds_toArray, List.set_cons_zero, List.set_cons_succ])
            refine wpAnyH_take (i := 8) (oi := ?oi_79) (v := ?v_79) ?ho_79 ?h1_79 ?h2_79 ?h3_79 ?hq_79 (Or.inl ⟨?hw_79, ?hy_79⟩) ?hs_79 ?rest_79; (case h2_79 => kernel_rfl); (case h3_79 => kernel_rfl); (case ho_79 => (simp only [List.getElem?_toArray, List.getElem?_cons_zero, List.getElem?_cons_succ]; rfl)); (case h1_79 => kernel_rfl); (case hq_79 => exact fun _ _ _ h => h); (case hw_79 => rfl); (case hy_79 => (intro w' hSw; (try simp only [S] at hSw); go_simp; (try with_reducible rfl))); (case hs_79 => assumption); (try simp only [Act.put, List.setIfInBounds_toArray, List.set_cons_zero, List.set_cons_succ])
            refine wpAnyH_take (i := 9) (oi := ?oi_80) (v := ?v_80) ?ho_80 ?h1_80 ?h2_80 ?h3_80 ?hq_80 (Or.inl ⟨?hw_80, ?hy_80⟩) ?hs_80 ?rest_80; (case h2_80 => kernel_rfl); (case h3_80 => kernel_rfl); (case ho_80 => (simp only [List.getElem?_toArray, List.getElem?_cons_zero, List.getElem?_cons_succ]; rfl)); (case h1_80 => kernel_rfl); (case hq_80 => exact fun _ _ _ h => h); (case hw_80 => rfl); (case hy_80 => (intro w' hSw; (try simp only [S] at hSw); go_simp; (try with_reducible rfl))); (case hs_80 => assumption); (try simp only [Act.put, List.setIfInBounds_toArray, List.set_cons_zero, List.set_cons_succ])
            refine wpAnyH_take (i := 10) (oi := ?oi_54) (v := undef) ?ho_54 ?h1_54 ?h2_54 ?h3_54 ?hq_54 (Or.inr ⟨?hw_54, ?hy_54⟩) ?hs_54 ?rest_54; (case h2_54 => kernel_rfl); (case h3_54 => kernel_rfl); (case ho_54 => (simp only [List.getElem?_toArray, List.getElem?_cons_zero, List.getElem?_cons_succ]; rfl)); (case h1_54 => kernel_rfl); (case hq_54 => exact fun _ _ _ h => h); (case hw_54 => rfl); (case hy_54 => rfl); (case hs_54 => assumption); (try simp only [Act.put, List.setIfInBounds_toArray, List.set_cons_zero, List.set_cons_succ])
            refine wpAnyH_take (i := 11) (oi := ?oi_55) (v := undef) ?ho_55 ?h1_55 ?h2_55 ?h3_55 ?hq_55 (Or.inr ⟨?hw_55, ?hy_55⟩) ?hs_55 ?rest_55; (case h2_55 => kernel_rfl); (case h3_55 => kernel_rfl); (case ho_55 => (simp only [List.getElem?_toArray, List.getElem?_cons_zero, List.getElem?_cons_succ]; rfl)); (case h1_55 => kernel_rfl); (case hq_55 => exact fun _ _ _ h => h); (case hw_55 => rfl); (case hy_55 => rfl); (case hs_55 => assumption); (try simp only [Act.put, List.setIfInBounds_toArray, List.set_cons_zero, List.set_cons_succ])
            refine wpAnyH_take (i := 12) (oi := ?oi_56) (v := undef) ?ho_56 ?h1_56 ?h2_56 ?h3_56 ?hq_56 (Or.inr ⟨?hw_56, ?hy_56⟩) ?hs_56 ?rest_56; (case h2_56 => kernel_rfl); (case h3_56 => kernel_rfl); (case ho_56 => (simp only [List.getElem?_toArray, List.getElem?_cons_zero, List.getElem?_cons_succ]; rfl)); (case h1_56 => kernel_rfl); (case hq_56 => exact fun _ _ _ h => h); (case hw_56 => rfl); (case hy_56 => rfl); (case hs_56 => assumption); (try simp only [Act.put, List.setIfInBounds_toArray, List.set_cons_zero, List.set_cons_succ])
            refine wpAnyH_take (i := 13) (oi := ?oi_57) (v := undef) ?ho_57 ?h1_57 ?h2_57 ?h3_57 ?hq_57 (Or.inr ⟨?hw_57, ?hy_57⟩) ?hs_57 ?rest_57; (case h2_57 => kernel_rfl); (case h3_57 => kernel_rfl); (case ho_57 => (simp only [List.getElem?_toArray, List.getElem?_cons_zero, List.getElem?_cons_succ]; rfl)); (case h1_57 => kernel_rfl); (case hq_57 => exact fun _ _ _ h => h); (case hw_57 => rfl); (case hy_57 => rfl); (case hs_57 => assumption); (try simp only [Act.put, List.setIfInBounds_toArray, List.set_cons_zero, List.set_cons_succ])
            refine wpAnyH_take (i := 14) (oi := ?oi_58) (v := undef) ?ho_58 ?h1_58 ?h2_58 ?h3_58 ?hq_58 (Or.inr ⟨?hw_58, ?hy_58⟩) ?hs_58 ?rest_58; (case h2_58 => kernel_rfl); (case h3_58 => kernel_rfl); (case ho_58 => (simp only [List.getElem?_toArray, List.getElem?_cons_zero, List.getElem?_cons_succ]; rfl)); (case h1_58 => kernel_rfl); (case hq_58 => exact fun _ _ _ h => h); (case hw_58 => rfl); (case hy_58 => rfl); (case hs_58 => assumption); (try simp only [Act.put, List.setIfInBounds_toArray, List.set_cons_zero, List.set_cons_succ])
            refine wpAnyH_take (i := 15) (oi := ?oi_59) (v := undef) ?ho_59 ?h1_59 ?h2_59 ?h3_59 ?hq_59 (Or.inr ⟨?hw_59, ?hy_59⟩) ?hs_59 ?rest_59; (case h2_59 => kernel_rfl); (case h3_59 => kernel_rfl); (case ho_59 => (simp only [List.getElem?_toArray, List.getElem?_cons_zero, List.getElem?_cons_succ]; rfl)); (case h1_59 => kernel_rfl); (case hq_59 => exact fun _ _ _ h => h); (case hw_59 => rfl); (case hy_59 => rfl); (case hs_59 => assumption); (try simp only [Act.put, List.setIfInBounds_toArray, List.set_cons_zero, List.set_cons_succ])
            refine wpAnyH_take (i := 16) (oi := ?oi_60) (v := undef) ?ho_60 ?h1_60 ?h2_60 ?h3_60 ?hq_60 (Or.inr ⟨?hw_60, ?hy_60⟩) ?hs_60 ?rest_60; (case h2_60 => kernel_rfl); (case h3_60 => kernel_rfl); (case ho_60 => (simp only [List.getElem?_toArray, List.getElem?_cons_zero, List.getElem?_cons_succ]; rfl)); (case h1_60 => kernel_rfl); (case hq_60 => exact fun _ _ _ h => h); (case hw_60 => rfl); (case hy_60 => rfl); (case hs_60 => assumption); (try simp only [Act.put, List.setIfInBounds_toArray, List.set_cons_zero, List.set_cons_succ])
            refine wpAnyH_take (i := 17) (oi := ?oi_61) (v := undef) ?ho_61 ?h1_61 ?h2_61 ?h3_61 ?hq_61 (Or.inr ⟨?hw_61, ?hy_61⟩) ?hs_61 ?rest_61; (case h2_61 => kernel_rfl); (case h3_61 => kernel_rfl); (case ho_61 => (simp only [List.getElem?_toArray, List.getElem?_cons_zero, List.getElem?_cons_succ]; rfl)); (case h1_61 => kernel_rfl); (case hq_61 => exact fun _ _ _ h => h); (case hw_61 => rfl); (case hy_61 => rfl); (case hs_61 => assumption); (try simp only [Act.put, List.setIfInBounds_toArray, List.set_cons_zero, List.set_cons_succ])
            refine wpAnyH_take (i := 18) (oi := ?oi_62) (v := undef) ?ho_62 ?h1_62 ?h2_62 ?h3_62 ?hq_62 (Or.inr ⟨?hw_62, ?hy_62⟩) ?hs_62 ?rest_62; (case h2_62 => kernel_rfl); (case h3_62 => kernel_rfl); (case ho_62 => (simp only [List.getElem?_toArray, List.getElem?_cons_zero, List.getElem?_cons_succ]; rfl)); (case h1_62 => kernel_rfl); (case hq_62 => exact fun _ _ _ h => h); (case hw_62 => rfl); (case hy_62 => rfl); (case hs_62 => assumption); (try simp only [Act.put, List.setIfInBounds_toArray, List.set_cons_zero, List.set_cons_succ])
            refine wpAnyH_take (i := 19) (oi := ?oi_63) (v := undef) ?ho_63 ?h1_63 ?h2_63 ?h3_63 ?hq_63 (Or.inr ⟨?hw_63, ?hy_63⟩) ?hs_63 ?rest_63; (case h2_63 => kernel_rfl); (case h3_63 => kernel_rfl); (case ho_63 => (simp only [List.getElem?_toArray, List.getElem?_cons_zero, List.getElem?_cons_succ]; rfl)); (case h1_63 => kernel_rfl); (case hq_63 => exact fun _ _ _ h => h); (case hw_63 => rfl); (case hy_63 => rfl); (case hs_63 => assumption); (try simp only [Act.put, List.setIfInBounds_toArray, List.set_cons_zero, List.set_cons_succ])
            refine wpAnyH_take (i := 20) (oi := ?oi_64) (v := undef) ?ho_64 ?h1_64 ?h2_64 ?h3_64 ?hq_64 (Or.inr ⟨?hw_64, ?hy_64⟩) ?hs_64 ?rest_64; (case h2_64 => kernel_rfl); (case h3_64 => kernel_rfl); (case ho_64 => (simp only [List.getElem?_toArray, List.getElem?_cons_zero, List.getElem?_cons_succ]; rfl)); (case h1_64 => kernel_rfl); (case hq_64 => exact fun _ _ _ h => h); (case hw_64 => rfl); (case hy_64 => rfl); (case hs_64 => assumption); (try simp only [Act.put, List.setIfInBounds_toArray, List.set_cons_zero, List.set_cons_succ])
            refine wpAnyH_take (i := 21) (oi := ?oi_65) (v := undef) ?ho_65 ?h1_65 ?h2_65 ?h3_65 ?hq_65 (Or.inr ⟨?hw_65, ?hy_65⟩) ?hs_65 ?rest_65; (case h2_65 => kernel_rfl); (case h3_65 => kernel_rfl); (case ho_65 => (simp only [List.getElem?_toArray, List.getElem?_cons_zero, List.getElem?_cons_succ]; rfl)); (case h1_65 => kernel_rfl); (case hq_65 => exact fun _ _ _ h => h); (case hw_65 => rfl); (case hy_65 => rfl); (case hs_65 => assumption); (try simp only [Act.put, List.setIfInBounds_toArray, List.set_cons_zero, List.set_cons_succ])
            refine wpAnyH_take (i := 22) (oi := ?oi_66) (v := undef) ?ho_66 ?h1_66 ?h2_66 ?h3_66 ?hq_66 (Or.inr ⟨?hw_66, ?hy_66⟩) ?hs_66 ?rest_66; (case h2_66 => kernel_rfl); (case h3_66 => kernel_rfl); (case ho_66 => (simp only [List.getElem?_toArray, List.getElem?_cons_zero, List.getElem?_cons_succ]; rfl)); (case h1_66 => kernel_rfl); (case hq_66 => exact fun _ _ _ h => h); (case hw_66 => rfl); (case hy_66 => rfl); (case hs_66 => assumption); (try simp only [Act.put, List.setIfInBounds_toArray, List.set_cons_zero, List.set_cons_succ])
            refine wpAnyH_take (i := 23) (oi := ?oi_81) (v := ?v_81) ?ho_81 ?h1_81 ?h2_81 ?h3_81 ?hq_81 (Or.inl ⟨?hw_81, ?hy_81⟩) ?hs_81 ?rest_81; (case h2_81 => kernel_rfl); (case h3_81 => kernel_rfl); (case ho_81 => (simp only [List.getElem?_toArray, List.getElem?_cons_zero, List.getElem?_cons_succ]; rfl)); (case h1_81 => kernel_rfl); (case hq_81 => exact fun _ _ _ h => h); (case hw_81 => rfl); (case hy_81 => (intro w' hSw; (try simp only [S] at hSw); go_simp; (try with_reducible rfl))); (case hs_81 => assumption); (try simp only [Act.put, List.setIfInBounds_toArray, List.set_cons_zero, List.set_cons_succ])
            refine wpAnyH_take (i := 24) (oi := ?oi_82) (v := ?v_82) ?ho_82 ?h1_82 ?h2_82 ?h3_82 ?hq_82 (Or.inl ⟨?hw_82, ?hy_82⟩) ?hs_82 ?rest_82; (case h2_82 => kernel_rfl); (case h3_82 => kernel_rfl); (case ho_82 => (simp only [List.getElem?_toArray, List.getElem?_cons_zero, List.getElem?_cons_succ]; rfl)); (case h1_82 => kernel_rfl); (case hq_82 => exact fun _ _ _ h => h); (case hw_82 => rfl); (case hy_82 => (intro w' hSw; (try simp only [S] at hSw); go_simp; (try with_reducible rfl))); (case hs_82 => assumption); (try simp only [Act.put, List.setIfInBounds_toArray, List.set_cons_zero, List.set_cons_succ])
            refine wpAnyH_done (by kernel_rfl) ?_ _
            go_wp2_with fail
            go_meet
            exact ⟨vbool (by rw [hres]; rfl), hS1⟩
          · have hi0 : 0 < (k : Int) := by omega
            have hn0 : 0 < k := by omega
            obtain ⟨K, hK⟩ : ∃ K, k - 1 = K := ⟨_, rfl⟩
            obtain ⟨y, hy⟩ : ∃ y, l[K]? = some y := ⟨_, List.getElem?_eq_getElem (by rw [HL.out.1]; omega)⟩
            have hyo := HL.out.2.ok y (List.mem_of_getElem? hy)
            obtain ⟨b', o', e, hbB', hyr⟩ := HL.out.2.entry hy
            simp only [Option.some.injEq, Addr.mk.injEq, and_true] at e
            obtain ⟨rfl, rfl⟩ := e
            have qy0 := bRange HT.out.2 hbB' (en_range hyo hyr).1
            have qy := fun w' (h : S w') => bRange (show Below wr.heap.size wr w' from h) hbl qy0
            have iY : (Try.prog.info? 71).map (·.size) = some (bvs y.key).length := by rw [bvs_len, hyo.key]; exact d32_size
            have hless := fun W => rless_any hyo.key hkey W
            have hso : stepOk l k x = lt8 y.key x.key := by unfold stepOk; rw [ho, decide_eq_false h0, hK, hy]; rfl
            have wK : IntKind.i64.wrap ((k : Int) - 1) = (K : Int) := by rw [wrap_small _ (by omega) (by omega)]; omega
            have hKn : (K : Int) < (n : Int) := by omega
            have hKn' : K < n := by omega
            obtain ⟨t, ht⟩ : ∃ t, lt8 y.key x.key = t := ⟨_, rfl⟩
            rw [ht] at hso
            simp only [ht] at hless
            clear hK hy hyo hyr ht hbB' qy0 ho
            have hres : stepOk l k x = t := hso
            clear hso
            cases t
            · refine wp_region_held (S := S) (by kernel_rfl) ?_
              change wpAnyH _ _ _ _ S _ _ _ wr.drew
              refine wpAnyH_take (i := 0) (oi := ?oi_83) (v := ?v_83) ?ho_83 ?h1_83 ?h2_83 ?h3_83 ?hq_83 (Or.inl ⟨?hw_83, ?hy_83⟩) ?hs_83 ?rest_83; (case h2_83 => kernel_rfl); (case h3_83 => kernel_rfl); (case ho_83 => (simp only [List.getElem?_toArray, List.getElem?_cons_zero, List.getElem?_cons_succ]; rfl)); (case h1_83 => kernel_rfl); (case hq_83 => exact fun _ _ _ h => h); (case hw_83 => rfl); (case hy_83 => (intro w' hSw; (try simp only [S] at hSw); go_simp; (try with_reducible rfl))); (case hs_83 => assumption); (try simp only [Act.put, List.setIfInBounds_toArray, List.set_cons_zero, List.set_cons_succ])
              refine wpAnyH_take (i := 1) (oi := ?oi_84) (v := ?v_84) ?ho_84 ?h1_84 ?h2_84 ?h3_84 ?hq_84 (Or.inl ⟨?hw_84, ?hy_84⟩) ?hs_84 ?rest_84; (case h2_84 => kernel_rfl); (case h3_84 => kernel_rfl); (case ho_84 => (simp only [List.getElem?_toArray, List.getElem?_cons_zero, List.getElem?_cons_succ]; rfl)); (case h1_84 => kernel_rfl); (case hq_84 => exact fun _ _ _ h => h); (case hw_84 => rfl); (case hy_84 => (intro w' hSw; (try simp only [S] at hSw); go_simp; (try with_reducible rfl))); (case hs_84 => assumption); (try simp only [Act.put, List.setIfInBounds_toArray, List.set_cons_zero, List.set_cons_succ])
              refine wpAnyH_take (i := 2) (oi := ?oi_85) (v := ?v_85) ?ho_85 ?h1_85 ?h2_85 ?h3_85 ?hq_85 (Or.inl ⟨?hw_85, ?hy_85⟩) ?hs_85 ?rest_85; (case h2_85 => kernel_rfl); (case h3_85 => kernel_rfl); (case ho_85 => (simp only [List.getElem?_toArray, List.getElem?_cons_zero, List.getElem?_cons_succ]; rfl)); (case h1_85 => kernel_rfl); (case hq_85 => exact fun _ _ _ h => h); (case hw_85 => rfl); (case hy_85 => (intro w' hSw; (try simp only [S] at hSw); go_simp; (try with_reducible rfl))); (case hs_85 => assumption); (try simp only [Act.put, List.setIfInBounds_toArray, List.set_cons_zero, List.set_cons_succ])
              refine wpAnyH_take (i := 3) (oi := ?oi_125) (v := ?v_125) ?ho_125 ?h1_125 ?h2_125 ?h3_125 ?hq_125 (Or.inl ⟨?hw_125, ?hy_125⟩) ?hs_125 ?rest_125; (case h2_125 => kernel_rfl); (case h3_125 => kernel_rfl); (case ho_125 => (simp only [List.getElem?_toArray, List.getElem?_cons_zero, List.getElem?_cons_succ]; rfl)); (case h1_125 => kernel_rfl); (case hq_125 => exact fun _ _ _ h => h); (case hw_125 => rfl); (case hy_125 => (intro w' hSw; refine exec_load_row (x := .tmp 12) ?_ ?_ (rx w' hSw) Try.underlying73 ?_ hxli <;> rfl)); (case hs_125 => assumption); (try simp only [Act.put, List.setIfInBounds_toArray, List.set_cons_zero, List.set_cons_succ])
              refine wpAnyH_ready (rs := [4]) (by kernel_rfl) (by simp) (AllReadyH.cons (o := ?oo4_133) ?hoo4_133 (fun K hK => ?steponly133) AllReadyH.nil); (case hoo4_133 => (simp only [List.getElem?_toArray, List.getElem?_cons_zero, List.getElem?_cons_succ]; rfl))
              go_simp
              refine Calls.mono (honeC _) ?_
              rintro e w14 ⟨rfl, hb14⟩
              have hS1 : S w14 := hS0.trans (hb14.mono (Nat.le_refl _))
              refine hK.out _ _ hS1 (fun _ => ?_)
              clear hK K
              (try simp only [Act.put, List.setIfInBounds_toArray, List.set_cons_zero, List.set_cons_succ])
              refine wpAnyH_take (i := 5) (oi := ?oi_86) (v := ?v_86) ?ho_86 ?h1_86 ?h2_86 ?h3_86 ?hq_86 (Or.inl ⟨?hw_86, ?hy_86⟩) ?hs_86 ?rest_86; (case h2_86 => kernel_rfl); (case h3_86 => kernel_rfl); (case ho_86 => (simp only [List.getElem?_toArray, List.getElem?_cons_zero, List.getElem?_cons_succ]; rfl)); (case h1_86 => kernel_rfl); (case hq_86 => exact fun _ _ _ h => h); (case hw_86 => rfl); (case hy_86 => (intro w' hSw; (try simp only [S] at hSw); go_simp; (try with_reducible rfl))); (case hs_86 => assumption); (try simp only [Act.put, List.setIfInBounds_toArray, List.set_cons_zero, List.set_cons_succ])
              refine wpAnyH_take (i := 6) (oi := ?oi_87) (v := ?v_87) ?ho_87 ?h1_87 ?h2_87 ?h3_87 ?hq_87 (Or.inl ⟨?hw_87, ?hy_87⟩) ?hs_87 ?rest_87; (case h2_87 => kernel_rfl); (case h3_87 => kernel_rfl); (case ho_87 => (simp only [List.getElem?_toArray, List.getElem?_cons_zero, List.getElem?_cons_succ]; rfl)); (case h1_87 => kernel_rfl); (case hq_87 => exact fun _ _ _ h => h); (case hw_87 => rfl); (case hy_87 => (intro w' hSw; (try simp only [S] at hSw); go_simp; (try with_reducible rfl))); (case hs_87 => assumption); (try simp only [Act.put, List.setIfInBounds_toArray, List.set_cons_zero, List.set_cons_succ])
              refine wpAnyH_take (i := 7) (oi := ?oi_88) (v := ?v_88) ?ho_88 ?h1_88 ?h2_88 ?h3_88 ?hq_88 (Or.inl ⟨?hw_88, ?hy_88⟩) ?hs_88 ?rest_88; (case h2_88 => kernel_rfl); (case h3_88 => kernel_rfl); (case ho_88 => (simp only [List.getElem?_toArray, List.getElem?_cons_zero, List.getElem?_cons_succ]; rfl)); (case h1_88 => kernel_rfl); (case hq_88 => exact fun _ _ _ h => h); (case hw_88 => rfl); (case hy_88 => (intro w' hSw; (try simp only [S] at hSw); go_simp; (try with_reducible rfl))); (case hs_88 => assumption); (try simp only [Act.put, List.setIfInBounds_toArray, List.set_cons_zero, List.set_cons_succ])
              refine wpAnyH_take (i := 8) (oi := ?oi_89) (v := ?v_89) ?ho_89 ?h1_89 ?h2_89 ?h3_89 ?hq_89 (Or.inl ⟨?hw_89, ?hy_89⟩) ?hs_89 ?rest_89; (case h2_89 => kernel_rfl); (case h3_89 => kernel_rfl); (case ho_89 => (simp only [List.getElem?_toArray, List.getElem?_cons_zero, List.getElem?_cons_succ]; rfl)); (case h1_89 => kernel_rfl); (case hq_89 => exact fun _ _ _ h => h); (case hw_89 => rfl); (case hy_89 => (intro w' hSw; (try simp only [S] at hSw); go_simp; (try with_reducible rfl))); (case hs_89 => assumption); (try simp only [Act.put, List.setIfInBounds_toArray, List.set_cons_zero, List.set_cons_succ])
              refine wpAnyH_take (i := 9) (oi := ?oi_90) (v := ?v_90) ?ho_90 ?h1_90 ?h2_90 ?h3_90 ?hq_90 (Or.inl ⟨?hw_90, ?hy_90⟩) ?hs_90 ?rest_90; (case h2_90 => kernel_rfl); (case h3_90 => kernel_rfl); (case ho_90 => (simp only [List.getElem?_toArray, List.getElem?_cons_zero, List.getElem?_cons_succ]; rfl)); (case h1_90 => kernel_rfl); (case hq_90 => exact fun _ _ _ h => h); (case hw_90 => rfl); (case hy_90 => (intro w' hSw; (try simp only [S] at hSw); go_simp; (try with_reducible rfl))); (case hs_90 => assumption); (try simp only [Act.put, List.setIfInBounds_toArray, List.set_cons_zero, List.set_cons_succ])
              refine wpAnyH_take (i := 10) (oi := ?oi_91) (v := ?v_91) ?ho_91 ?h1_91 ?h2_91 ?h3_91 ?hq_91 (Or.inl ⟨?hw_91, ?hy_91⟩) ?hs_91 ?rest_91; (case h2_91 => kernel_rfl); (case h3_91 => kernel_rfl); (case ho_91 => (simp only [List.getElem?_toArray, List.getElem?_cons_zero, List.getElem?_cons_succ]; rfl)); (case h1_91 => kernel_rfl); (case hq_91 => exact fun _ _ _ h => h); (case hw_91 => rfl); (case hy_91 => (intro w' hSw; (try simp only [S] at hSw); go_simp; (try with_reducible rfl))); (case hs_91 => assumption); (try simp only [Act.put, List.setIfInBounds_toArray, List.set_cons_zero, List.set_cons_succ])
              refine wpAnyH_take (i := 11) (oi := ?oi_92) (v := ?v_92) ?ho_92 ?h1_92 ?h2_92 ?h3_92 ?hq_92 (Or.inl ⟨?hw_92, ?hy_92⟩) ?hs_92 ?rest_92; (case h2_92 => kernel_rfl); (case h3_92 => kernel_rfl); (case ho_92 => (simp only [List.getElem?_toArray, List.getElem?_cons_zero, List.getElem?_cons_succ]; rfl)); (case h1_92 => kernel_rfl); (case hq_92 => exact fun _ _ _ h => h); (case hw_92 => rfl); (case hy_92 => (intro w' hSw; (try simp only [S] at hSw); go_simp; (try with_reducible rfl))); (case hs_92 => assumption); (try simp only [Act.put, List.setIfInBounds_toArray, List.set_cons_zero, List.set_cons_succ])
              refine wpAnyH_take (i := 12) (oi := ?oi_93) (v := ?v_93) ?ho_93 ?h1_93 ?h2_93 ?h3_93 ?hq_93 (Or.inl ⟨?hw_93, ?hy_93⟩) ?hs_93 ?rest_93; (case h2_93 => kernel_rfl); (case h3_93 => kernel_rfl); (case ho_93 => (simp only [List.getElem?_toArray, List.getElem?_cons_zero, List.getElem?_cons_succ]; rfl)); (case h1_93 => kernel_rfl); (case hq_93 => exact fun _ _ _ h => h); (case hw_93 => rfl); (case hy_93 => (intro w' hSw; (try simp only [S] at hSw); go_simp; (try with_reducible rfl))); (case hs_93 => assumption); (try simp only [Act.put, List.setIfInBounds_toArray, List.set_cons_zero, List.set_cons_succ])
              refine wpAnyH_take (i := 13) (oi := ?oi_94) (v := ?v_94) ?ho_94 ?h1_94 ?h2_94 ?h3_94 ?hq_94 (Or.inl ⟨?hw_94, ?hy_94⟩) ?hs_94 ?rest_94; (case h2_94 => kernel_rfl); (case h3_94 => kernel_rfl); (case ho_94 => (simp only [List.getElem?_toArray, List.getElem?_cons_zero, List.getElem?_cons_succ]; rfl)); (case h1_94 => kernel_rfl); (case hq_94 => exact fun _ _ _ h => h); (case hw_94 => rfl); (case hy_94 => (intro w' hSw; (try simp only [S] at hSw); go_simp; (try with_reducible rfl))); (case hs_94 => assumption); (try simp only [Act.put, List.setIfInBounds_toArray, List.set_cons_zero, List.set_cons_succ])
              refine wpAnyH_take (i := 14) (oi := ?oi_95) (v := ?v_95) ?ho_95 ?h1_95 ?h2_95 ?h3_95 ?hq_95 (Or.inl ⟨?hw_95, ?hy_95⟩) ?hs_95 ?rest_95; (case h2_95 => kernel_rfl); (case h3_95 => kernel_rfl); (case ho_95 => (simp only [List.getElem?_toArray, List.getElem?_cons_zero, List.getElem?_cons_succ]; rfl)); (case h1_95 => kernel_rfl); (case hq_95 => exact fun _ _ _ h => h); (case hw_95 => rfl); (case hy_95 => (intro w' hSw; (try simp only [S] at hSw); go_simp; (try with_reducible rfl))); (case hs_95 => assumption); (try simp only [Act.put, List.setIfInBounds_toArray, List.set_cons_zero, List.set_cons_succ])
              refine wpAnyH_take (i := 15) (oi := ?oi_126) (v := ?v_126) ?ho_126 ?h1_126 ?h2_126 ?h3_126 ?hq_126 (Or.inl ⟨?hw_126, ?hy_126⟩) ?hs_126 ?rest_126; (case h2_126 => kernel_rfl); (case h3_126 => kernel_rfl); (case ho_126 => (simp only [List.getElem?_toArray, List.getElem?_cons_zero, List.getElem?_cons_succ]; rfl)); (case h1_126 => kernel_rfl); (case hq_126 => exact fun _ _ _ h => h); (case hw_126 => rfl); (case hy_126 => (intro w' hSw; refine exec_load_row (x := .tmp 24) ?_ ?_ (qy w' hSw) Try.underlying71 ?_ iY <;> rfl)); (case hs_126 => assumption); (try simp only [Act.put, List.setIfInBounds_toArray, List.set_cons_zero, List.set_cons_succ])
              refine wpAnyH_take (i := 16) (oi := ?oi_96) (v := ?v_96) ?ho_96 ?h1_96 ?h2_96 ?h3_96 ?hq_96 (Or.inl ⟨?hw_96, ?hy_96⟩) ?hs_96 ?rest_96; (case h2_96 => kernel_rfl); (case h3_96 => kernel_rfl); (case ho_96 => (simp only [List.getElem?_toArray, List.getElem?_cons_zero, List.getElem?_cons_succ]; rfl)); (case h1_96 => kernel_rfl); (case hq_96 => exact fun _ _ _ h => h); (case hw_96 => rfl); (case hy_96 => (intro w' hSw; (try simp only [S] at hSw); go_simp; (try with_reducible rfl))); (case hs_96 => assumption); (try simp only [Act.put, List.setIfInBounds_toArray, List.set_cons_zero, List.set_cons_succ])
              refine wpAnyH_take (i := 17) (oi := ?oi_97) (v := ?v_97) ?ho_97 ?h1_97 ?h2_97 ?h3_97 ?hq_97 (Or.inl ⟨?hw_97, ?hy_97⟩) ?hs_97 ?rest_97; (case h2_97 => kernel_rfl); (case h3_97 => kernel_rfl); (case ho_97 => (simp only [List.getElem?_toArray, List.getElem?_cons_zero, List.getElem?_cons_succ]; rfl)); (case h1_97 => kernel_rfl); (case hq_97 => exact fun _ _ _ h => h); (case hw_97 => rfl); (case hy_97 => (intro w' hSw; (try simp only [S] at hSw); go_simp; (try with_reducible rfl))); (case hs_97 => assumption); (try simp only [Act.put, List.setIfInBounds_toArray, List.set_cons_zero, List.set_cons_succ])
              refine wpAnyH_take (i := 18) (oi := ?oi_98) (v := ?v_98) ?ho_98 ?h1_98 ?h2_98 ?h3_98 ?hq_98 (Or.inl ⟨?hw_98, ?hy_98⟩) ?hs_98 ?rest_98; (case h2_98 => kernel_rfl); (case h3_98 => kernel_rfl); (case ho_98 => (simp only [List.getElem?_toArray, List.getElem?_cons_zero, List.getElem?_cons_succ]; rfl)); (case h1_98 => kernel_rfl); (case hq_98 => exact fun _ _ _ h => h); (case hw_98 => rfl); (case hy_98 => (intro w' hSw; (try simp only [S] at hSw); go_simp; (try with_reducible rfl))); (case hs_98 => assumption); (try simp only [Act.put, List.setIfInBounds_toArray, List.set_cons_zero, List.set_cons_succ])
              refine wpAnyH_take (i := 19) (oi := ?oi_99) (v := ?v_99) ?ho_99 ?h1_99 ?h2_99 ?h3_99 ?hq_99 (Or.inl ⟨?hw_99, ?hy_99⟩) ?hs_99 ?rest_99; (case h2_99 => kernel_rfl); (case h3_99 => kernel_rfl); (case ho_99 => (simp only [List.getElem?_toArray, List.getElem?_cons_zero, List.getElem?_cons_succ]; rfl)); (case h1_99 => kernel_rfl); (case hq_99 => exact fun _ _ _ h => h); (case hw_99 => rfl); (case hy_99 => (intro w' hSw; (try simp only [S] at hSw); go_simp; (try with_reducible rfl))); (case hs_99 => assumption); (try simp only [Act.put, List.setIfInBounds_toArray, List.set_cons_zero, List.set_cons_succ])
              refine wpAnyH_take (i := 20) (oi := ?oi_127) (v := ?v_127) ?ho_127 ?h1_127 ?h2_127 ?h3_127 ?hq_127 (Or.inl ⟨?hw_127, ?hy_127⟩) ?hs_127 ?rest_127; (case h2_127 => kernel_rfl); (case h3_127 => kernel_rfl); (case ho_127 => (simp only [List.getElem?_toArray, List.getElem?_cons_zero, List.getElem?_cons_succ]; rfl)); (case h1_127 => kernel_rfl); (case hq_127 => exact fun _ _ _ h => h); (case hw_127 => rfl); (case hy_127 => (intro w' hSw; refine exec_load_row (x := .tmp 29) ?_ ?_ (rk' w' hSw) Try.underlying71 ?_ iD <;> rfl)); (case hs_127 => assumption); (try simp only [Act.put, List.setIfInBounds_toArray, List.set_cons_zero, List.set_cons_succ])
              refine wpAnyH_ready (rs := [21]) (by kernel_rfl) (by simp) (AllReadyH.cons (o := ?oo21_134) ?hoo21_134 (fun K hK => ?steponly134) AllReadyH.nil); (case hoo21_134 => (simp only [List.getElem?_toArray, List.getElem?_cons_zero, List.getElem?_cons_succ]; rfl))
              go_simp
              refine Calls.mono (hless _) ?_
              rintro e w31 ⟨rfl, hb31⟩
              have hz14 := (show Below wr.heap.size wr w14 from hS1).size
              have hS2 : S w31 := hS1.trans (hb31.mono hz14)
              refine hK.out _ _ hS2 (fun _ => ?_)
              clear hK K
              (try simp only [Act.put, List.setIfInBounds_toArray, List.set_cons_zero, List.set_cons_succ])
              refine wpAnyH_take (i := 22) (oi := ?oi_100) (v := ?v_100) ?ho_100 ?h1_100 ?h2_100 ?h3_100 ?hq_100 (Or.inl ⟨?hw_100, ?hy_100⟩) ?hs_100 ?rest_100; (case h2_100 => kernel_rfl); (case h3_100 => kernel_rfl); (case ho_100 => (simp only [List.getElem?_toArray, List.getElem?_cons_zero, List.getElem?_cons_succ]; rfl)); (case h1_100 => kernel_rfl); (case hq_100 => exact fun _ _ _ h => h); (case hw_100 => rfl); (case hy_100 => (intro w' hSw; (try simp only [S] at hSw); go_simp; (try with_reducible rfl))); (case hs_100 => assumption); (try simp only [Act.put, List.setIfInBounds_toArray, List.set_cons_zero, List.set_cons_succ])
              refine wpAnyH_take (i := 23) (oi := ?oi_101) (v := ?v_101) ?ho_101 ?h1_101 ?h2_101 ?h3_101 ?hq_101 (Or.inl ⟨?hw_101, ?hy_101⟩) ?hs_101 ?rest_101; (case h2_101 => kernel_rfl); (case h3_101 => kernel_rfl); (case ho_101 => (simp only [List.getElem?_toArray, List.getElem?_cons_zero, List.getElem?_cons_succ]; rfl)); (case h1_101 => kernel_rfl); (case hq_101 => exact fun _ _ _ h => h); (case hw_101 => rfl); (case hy_101 => (intro w' hSw; (try simp only [S] at hSw); go_simp; (try with_reducible rfl))); (case hs_101 => assumption); (try simp only [Act.put, List.setIfInBounds_toArray, List.set_cons_zero, List.set_cons_succ])
              refine wpAnyH_take (i := 24) (oi := ?oi_102) (v := ?v_102) ?ho_102 ?h1_102 ?h2_102 ?h3_102 ?hq_102 (Or.inl ⟨?hw_102, ?hy_102⟩) ?hs_102 ?rest_102; (case h2_102 => kernel_rfl); (case h3_102 => kernel_rfl); (case ho_102 => (simp only [List.getElem?_toArray, List.getElem?_cons_zero, List.getElem?_cons_succ]; rfl)); (case h1_102 => kernel_rfl); (case hq_102 => exact fun _ _ _ h => h); (case hw_102 => rfl); (case hy_102 => (intro w' hSw; (try simp only [S] at hSw); go_simp; (try with_reducible rfl))); (case hs_102 => assumption); (try simp only [Act.put, List.setIfInBounds_toArray, List.set_cons_zero, List.set_cons_succ])
              refine wpAnyH_done (by kernel_rfl) ?_ _
              go_wp2_with fail
              go_meet
              exact ⟨vbool (by rw [hres]; rfl), hS2⟩
            · refine wp_region_held (S := S) (by kernel_rfl) ?_
              change wpAnyH _ _ _ _ S _ _ _ wr.drew
              refine wpAnyH_take (i := 0) (oi := ?oi_103) (v := ?v_103) ?ho_103 ?h1_103 ?h2_103 ?h3_103 ?hq_103 (Or.inl ⟨?hw_103, ?hy_103⟩) ?hs_103 ?rest_103; (case h2_103 => kernel_rfl); (case h3_103 => kernel_rfl); (case ho_103 => (simp only [List.getElem?_toArray, List.getElem?_cons_zero, List.getElem?_cons_succ]; rfl)); (case h1_103 => kernel_rfl); (case hq_103 => exact fun _ _ _ h => h); (case hw_103 => rfl); (case hy_103 => (intro w' hSw; (try simp only [S] at hSw); go_simp; (try with_reducible rfl))); (case hs_103 => assumption); (try simp only [Act.put, List.setIfInBounds_toArray, List.set_cons_zero, List.set_cons_succ])
              refine wpAnyH_take (i := 1) (oi := ?oi_104) (v := ?v_104) ?ho_104 ?h1_104 ?h2_104 ?h3_104 ?hq_104 (Or.inl ⟨?hw_104, ?hy_104⟩) ?hs_104 ?rest_104; (case h2_104 => kernel_rfl); (case h3_104 => kernel_rfl); (case ho_104 => (simp only [List.getElem?_toArray, List.getElem?_cons_zero, List.getElem?_cons_succ]; rfl)); (case h1_104 => kernel_rfl); (case hq_104 => exact fun _ _ _ h => h); (case hw_104 => rfl); (case hy_104 => (intro w' hSw; (try simp only [S] at hSw); go_simp; (try with_reducible rfl))); (case hs_104 => assumption); (try simp only [Act.put, List.setIfInBounds_toArray, List.set_cons_zero, List.set_cons_succ])
              refine wpAnyH_take (i := 2) (oi := ?oi_105) (v := ?v_105) ?ho_105 ?h1_105 ?h2_105 ?h3_105 ?hq_105 (Or.inl ⟨?hw_105, ?hy_105⟩) ?hs_105 ?rest_105; (case h2_105 => kernel_rfl); (case h3_105 => kernel_rfl); (case ho_105 => (simp only [List.getElem?_toArray, List.getElem?_cons_zero, List.getElem?_cons_succ]; rfl)); (case h1_105 => kernel_rfl); (case hq_105 => exact fun _ _ _ h => h); (case hw_105 => rfl); (case hy_105 => (intro w' hSw; (try simp only [S] at hSw); go_simp; (try with_reducible rfl))); (case hs_105 => assumption); (try simp only [Act.put, List.setIfInBounds_toArray, List.set_cons_zero, List.set_cons_succ])
              refine wpAnyH_take (i := 3) (oi := ?oi_128) (v := ?v_128) ?ho_128 ?h1_128 ?h2_128 ?h3_128 ?hq_128 (Or.inl ⟨?hw_128, ?hy_128⟩) ?hs_128 ?rest_128; (case h2_128 => kernel_rfl); (case h3_128 => kernel_rfl); (case ho_128 => (simp only [List.getElem?_toArray, List.getElem?_cons_zero, List.getElem?_cons_succ]; rfl)); (case h1_128 => kernel_rfl); (case hq_128 => exact fun _ _ _ h => h); (case hw_128 => rfl); (case hy_128 => (intro w' hSw; refine exec_load_row (x := .tmp 12) ?_ ?_ (rx w' hSw) Try.underlying73 ?_ hxli <;> rfl)); (case hs_128 => assumption); (try simp only [Act.put, List.setIfInBounds_toArray, List.set_cons_zero, List.set_cons_succ])
              refine wpAnyH_ready (rs := [4]) (by kernel_rfl) (by simp) (AllReadyH.cons (o := ?oo4_135) ?hoo4_135 (fun K hK => ?steponly135) AllReadyH.nil); (case hoo4_135 => (simp only [List.getElem?_toArray, List.getElem?_cons_zero, List.getElem?_cons_succ]; rfl))
              go_simp
              refine Calls.mono (honeC _) ?_
              rintro e w14 ⟨rfl, hb14⟩
              have hS1 : S w14 := hS0.trans (hb14.mono (Nat.le_refl _))
              refine hK.out _ _ hS1 (fun _ => ?_)
              clear hK K
              (try simp only [Act.put, List.setIfInBounds_toArray, List.set_cons_zero, List.set_cons_succ])
              refine wpAnyH_take (i := 5) (oi := ?oi_106) (v := ?v_106) ?ho_106 ?h1_106 ?h2_106 ?h3_106 ?hq_106 (Or.inl ⟨?hw_106, ?hy_106⟩) ?hs_106 ?rest_106; (case h2_106 => kernel_rfl); (case h3_106 => kernel_rfl); (case ho_106 => (simp only [List.getElem?_toArray, List.getElem?_cons_zero, List.getElem?_cons_succ]; rfl)); (case h1_106 => kernel_rfl); (case hq_106 => exact fun _ _ _ h => h); (case hw_106 => rfl); (case hy_106 => (intro w' hSw; (try simp only [S] at hSw); go_simp; (try with_reducible rfl))); (case hs_106 => assumption); (try simp only [Act.put, List.setIfInBounds_toArray, List.set_cons_zero, List.set_cons_succ])
              refine wpAnyH_take (i := 6) (oi := ?oi_107) (v := ?v_107) ?ho_107 ?h1_107 ?h2_107 ?h3_107 ?hq_107 (Or.inl ⟨?hw_107, ?hy_107⟩) ?hs_107 ?rest_107; (case h2_107 => kernel_rfl); (case h3_107 => kernel_rfl); (case ho_107 => (simp only [List.getElem?_toArray, List.getElem?_cons_zero, List.getElem?_cons_succ]; rfl)); (case h1_107 => kernel_rfl); (case hq_107 => exact fun _ _ _ h => h); (case hw_107 => rfl); (case hy_107 => (intro w' hSw; (try simp only [S] at hSw); go_simp; (try with_reducible rfl))); (case hs_107 => assumption); (try simp only [Act.put, List.setIfInBounds_toArray, List.set_cons_zero, List.set_cons_succ])
              refine wpAnyH_take (i := 7) (oi := ?oi_108) (v := ?v_108) ?ho_108 ?h1_108 ?h2_108 ?h3_108 ?hq_108 (Or.inl ⟨?hw_108, ?hy_108⟩) ?hs_108 ?rest_108; (case h2_108 => kernel_rfl); (case h3_108 => kernel_rfl); (case ho_108 => (simp only [List.getElem?_toArray, List.getElem?_cons_zero, List.getElem?_cons_succ]; rfl)); (case h1_108 => kernel_rfl); (case hq_108 => exact fun _ _ _ h => h); (case hw_108 => rfl); (case hy_108 => (intro w' hSw; (try simp only [S] at hSw); go_simp; (try with_reducible rfl))); (case hs_108 => assumption); (try simp only [Act.put, List.setIfInBounds_toArray, List.set_cons_zero, List.set_cons_succ])
              refine wpAnyH_take (i := 8) (oi := ?oi_109) (v := ?v_109) ?ho_109 ?h1_109 ?h2_109 ?h3_109 ?hq_109 (Or.inl ⟨?hw_109, ?hy_109⟩) ?hs_109 ?rest_109; (case h2_109 => kernel_rfl); (case h3_109 => kernel_rfl); (case ho_109 => (simp only [List.getElem?_toArray, List.getElem?_cons_zero, List.getElem?_cons_succ]; rfl)); (case h1_109 => kernel_rfl); (case hq_109 => exact fun _ _ _ h => h); (case hw_109 => rfl); (case hy_109 => (intro w' hSw; (try simp only [S] at hSw); go_simp; (try with_reducible rfl))); (case hs_109 => assumption); (try simp only [Act.put, List.setIfInBounds_toArray, List.set_cons_zero, List.set_cons_succ])
              refine wpAnyH_take (i := 9) (oi := ?oi_110) (v := ?v_110) ?ho_110 ?h1_110 ?h2_110 ?h3_110 ?hq_110 (Or.inl ⟨?hw_110, ?hy_110⟩) ?hs_110 ?rest_110; (case h2_110 => kernel_rfl); (case h3_110 => kernel_rfl); (case ho_110 => (simp only [List.getElem?_toArray, List.getElem?_cons_zero, List.getElem?_cons_succ]; rfl)); (case h1_110 => kernel_rfl); (case hq_110 => exact fun _ _ _ h => h); (case hw_110 => rfl); (case hy_110 => (intro w' hSw; (try simp only [S] at hSw); go_simp; (try with_reducible rfl))); (case hs_110 => assumption); (try simp only [Act.put, List.setIfInBounds_toArray, List.set_cons_zero, List.set_cons_succ])
              refine wpAnyH_take (i := 10) (oi := ?oi_111) (v := ?v_111) ?ho_111 ?h1_111 ?h2_111 ?h3_111 ?hq_111 (Or.inl ⟨?hw_111, ?hy_111⟩) ?hs_111 ?rest_111; (case h2_111 => kernel_rfl); (case h3_111 => kernel_rfl); (case ho_111 => (simp only [List.getElem?_toArray, List.getElem?_cons_zero, List.getElem?_cons_succ]; rfl)); (case h1_111 => kernel_rfl); (case hq_111 => exact fun _ _ _ h => h); (case hw_111 => rfl); (case hy_111 => (intro w' hSw; (try simp only [S] at hSw); go_simp; (try with_reducible rfl))); (case hs_111 => assumption); (try simp only [Act.put, List.setIfInBounds_toArray, List.set_cons_zero, List.set_cons_succ])
              refine wpAnyH_take (i := 11) (oi := ?oi_112) (v := ?v_112) ?ho_112 ?h1_112 ?h2_112 ?h3_112 ?hq_112 (Or.inl ⟨?hw_112, ?hy_112⟩) ?hs_112 ?rest_112; (case h2_112 => kernel_rfl); (case h3_112 => kernel_rfl); (case ho_112 => (simp only [List.getElem?_toArray, List.getElem?_cons_zero, List.getElem?_cons_succ]; rfl)); (case h1_112 => kernel_rfl); (case hq_112 => exact fun _ _ _ h => h); (case hw_112 => rfl); (case hy_112 => (intro w' hSw; (try simp only [S] at hSw); go_simp; (try with_reducible rfl))); (case hs_112 => assumption); (try simp only [Act.put, List.setIfInBounds_toArray, List.set_cons_zero, List.set_cons_succ])
              refine wpAnyH_take (i := 12) (oi := ?oi_113) (v := ?v_113) ?ho_113 ?h1_113 ?h2_113 ?h3_113 ?hq_113 (Or.inl ⟨?hw_113, ?hy_113⟩) ?hs_113 ?rest_113; (case h2_113 => kernel_rfl); (case h3_113 => kernel_rfl); (case ho_113 => (simp only [List.getElem?_toArray, List.getElem?_cons_zero, List.getElem?_cons_succ]; rfl)); (case h1_113 => kernel_rfl); (case hq_113 => exact fun _ _ _ h => h); (case hw_113 => rfl); (case hy_113 => (intro w' hSw; (try simp only [S] at hSw); go_simp; (try with_reducible rfl))); (case hs_113 => assumption); (try simp only [Act.put, List.setIfInBounds_toArray, List.set_cons_zero, List.set_cons_succ])
              refine wpAnyH_take (i := 13) (oi := ?oi_114) (v := ?v_114) ?ho_114 ?h1_114 ?h2_114 ?h3_114 ?hq_114 (Or.inl ⟨?hw_114, ?hy_114⟩) ?hs_114 ?rest_114; (case h2_114 => kernel_rfl); (case h3_114 => kernel_rfl); (case ho_114 => (simp only [List.getElem?_toArray, List.getElem?_cons_zero, List.getElem?_cons_succ]; rfl)); (case h1_114 => kernel_rfl); (case hq_114 => exact fun _ _ _ h => h); (case hw_114 => rfl); (case hy_114 => (intro w' hSw; (try simp only [S] at hSw); go_simp; (try with_reducible rfl))); (case hs_114 => assumption); (try simp only [Act.put, List.setIfInBounds_toArray, List.set_cons_zero, List.set_cons_succ])
              refine wpAnyH_take (i := 14) (oi := ?oi_115) (v := ?v_115) ?ho_115 ?h1_115 ?h2_115 ?h3_115 ?hq_115 (Or.inl ⟨?hw_115, ?hy_115⟩) ?hs_115 ?rest_115; (case h2_115 => kernel_rfl); (case h3_115 => kernel_rfl); (case ho_115 => (simp only [List.getElem?_toArray, List.getElem?_cons_zero, List.getElem?_cons_succ]; rfl)); (case h1_115 => kernel_rfl); (case hq_115 => exact fun _ _ _ h => h); (case hw_115 => rfl); (case hy_115 => (intro w' hSw; (try simp only [S] at hSw); go_simp; (try with_reducible rfl))); (case hs_115 => assumption); (try simp only [Act.put, List.setIfInBounds_toArray, List.set_cons_zero, List.set_cons_succ])
              refine wpAnyH_take (i := 15) (oi := ?oi_129) (v := ?v_129) ?ho_129 ?h1_129 ?h2_129 ?h3_129 ?hq_129 (Or.inl ⟨?hw_129, ?hy_129⟩) ?hs_129 ?rest_129; (case h2_129 => kernel_rfl); (case h3_129 => kernel_rfl); (case ho_129 => (simp only [List.getElem?_toArray, List.getElem?_cons_zero, List.getElem?_cons_succ]; rfl)); (case h1_129 => kernel_rfl); (case hq_129 => exact fun _ _ _ h => h); (case hw_129 => rfl); (case hy_129 => (intro w' hSw; refine exec_load_row (x := .tmp 24) ?_ ?_ (qy w' hSw) Try.underlying71 ?_ iY <;> rfl)); (case hs_129 => assumption); (try simp only [Act.put, List.setIfInBounds_toArray, List.set_cons_zero, List.set_cons_succ])
              refine wpAnyH_take (i := 16) (oi := ?oi_116) (v := ?v_116) ?ho_116 ?h1_116 ?h2_116 ?h3_116 ?hq_116 (Or.inl ⟨?hw_116, ?hy_116⟩) ?hs_116 ?rest_116; (case h2_116 => kernel_rfl); (case h3_116 => kernel_rfl); (case ho_116 => (simp only [List.getElem?_toArray, List.getElem?_cons_zero, List.getElem?_cons_succ]; rfl)); (case h1_116 => kernel_rfl); (case hq_116 => exact fun _ _ _ h => h); (case hw_116 => rfl); (case hy_116 => (intro w' hSw; (try simp only [S] at hSw); go_simp; (try with_reducible rfl))); (case hs_116 => assumption); (try simp only [Act.put, List.setIfInBounds_toArray, List.set_cons_zero, List.set_cons_succ])
              refine wpAnyH_take (i := 17) (oi := ?oi_117) (v := ?v_117) ?ho_117 ?h1_117 ?h2_117 ?h3_117 ?hq_117 (Or.inl ⟨?hw_117, ?hy_117⟩) ?hs_117 ?rest_117; (case h2_117 => kernel_rfl); (case h3_117 => kernel_rfl); (case ho_117 => (simp only [List.getElem?_toArray, List.getElem?_cons_zero, List.getElem?_cons_succ]; rfl)); (case h1_117 => kernel_rfl); (case hq_117 => exact fun _ _ _ h => h); (case hw_117 => rfl); (case hy_117 => (intro w' hSw; (try simp only [S] at hSw); go_simp; (try with_reducible rfl))); (case hs_117 => assumption); (try simp only [Act.put, List.setIfInBounds_toArray, List.set_cons_zero, List.set_cons_succ])
              refine wpAnyH_take (i := 18) (oi := ?oi_118) (v := ?v_118) ?ho_118 ?h1_118 ?h2_118 ?h3_118 ?hq_118 (Or.inl ⟨?hw_118, ?hy_118⟩) ?hs_118 ?rest_118; (case h2_118 => kernel_rfl); (case h3_118 => kernel_rfl); (case ho_118 => (simp only [List.getElem?_toArray, List.getElem?_cons_zero, List.getElem?_cons_succ]; rfl)); (case h1_118 => kernel_rfl); (case hq_118 => exact fun _ _ _ h => h); (case hw_118 => rfl); (case hy_118 => (intro w' hSw; (try simp only [S] at hSw); go_simp; (try with_reducible rfl))); (case hs_118 => assumption); (try simp only [Act.put, List.setIfInBounds_toArray, List.set_cons_zero, List.set_cons_succ])
              refine wpAnyH_take (i := 19) (oi := ?oi_119) (v := ?v_119) ?ho_119 ?h1_119 ?h2_119 ?h3_119 ?hq_119 (Or.inl ⟨?hw_119, ?hy_119⟩) ?hs_119 ?rest_119; (case h2_119 => kernel_rfl); (case h3_119 => kernel_rfl); (case ho_119 => (simp only [List.getElem?_toArray, List.getElem?_cons_zero, List.getElem?_cons_succ]; rfl)); (case h1_119 => kernel_rfl); (case hq_119 => exact fun _ _ _ h => h); (case hw_119 => rfl); (case hy_119 => (intro w' hSw; (try simp only [S] at hSw); go_simp; (try with_reducible rfl))); (case hs_119 => assumption); (try simp only [Act.put, List.setIfInBounds_toArray, List.set_cons_zero, List.set_cons_succ])
              refine wpAnyH_take (i := 20) (oi := ?oi_130) (v := ?v_130) ?ho_130 ?h1_130 ?h2_130 ?h3_130 ?hq_130 (Or.inl ⟨?hw_130, ?hy_130⟩) ?hs_130 ?rest_130; (case h2_130 => kernel_rfl); (case h3_130 => kernel_rfl); (case ho_130 => (simp only [List.getElem?_toArray, List.getElem?_cons_zero, List.getElem?_cons_succ]; rfl)); (case h1_130 => kernel_rfl); (case hq_130 => exact fun _ _ _ h => h); (case hw_130 => rfl); (case hy_130 => (intro w' hSw; refine exec_load_row (x := .tmp 29) ?_ ?_ (rk' w' hSw) Try.underlying71 ?_ iD <;> rfl)); (case hs_130 => assumption); (try simp only [Act.put, List.setIfInBounds_toArray, List.set_cons_zero, List.set_cons_succ])
              refine wpAnyH_ready (rs := [21]) (by kernel_rfl) (by simp) (AllReadyH.cons (o := ?oo21_136) ?hoo21_136 (fun K hK => ?steponly136) AllReadyH.nil); (case hoo21_136 => (simp only [List.getElem?_toArray, List.getElem?_cons_zero, List.getElem?_cons_succ]; rfl))
              go_simp
              refine Calls.mono (hless _) ?_
              rintro e w31 ⟨rfl, hb31⟩
              have hz14 := (show Below wr.heap.size wr w14 from hS1).size
              have hS2 : S w31 := hS1.trans (hb31.mono hz14)
              refine hK.out _ _ hS2 (fun _ => ?_)
              clear hK K
              (try simp only [Act.put, List.setIfInBounds_toArray, List.set_cons_zero, List.set_cons_succ])
              refine wpAnyH_take (i := 22) (oi := ?oi_120) (v := ?v_120) ?ho_120 ?h1_120 ?h2_120 ?h3_120 ?hq_120 (Or.inl ⟨?hw_120, ?hy_120⟩) ?hs_120 ?rest_120; (case h2_120 => kernel_rfl); (case h3_120 => kernel_rfl); (case ho_120 => (simp only [List.getElem?_toArray, List.getElem?_cons_zero, List.getElem?_cons_succ]; rfl)); (case h1_120 => kernel_rfl); (case hq_120 => exact fun _ _ _ h => h); (case hw_120 => rfl); (case hy_120 => (intro w' hSw; (try simp only [S] at hSw); go_simp; (try with_reducible rfl))); (case hs_120 => assumption); (try simp only [Act.put, List.setIfInBounds_toArray, List.set_cons_zero, List.set_cons_succ])
              refine wpAnyH_take (i := 23) (oi := ?oi_121) (v := ?v_121) ?ho_121 ?h1_121 ?h2_121 ?h3_121 ?hq_121 (Or.inl ⟨?hw_121, ?hy_121⟩) ?hs_121 ?rest_121; (case h2_121 => kernel_rfl); (case h3_121 => kernel_rfl); (case ho_121 => (simp only [List.getElem?_toArray, List.getElem?_cons_zero, List.getElem?_cons_succ]; rfl)); (case h1_121 => kernel_rfl); (case hq_121 => exact fun _ _ _ h => h); (case hw_121 => rfl); (case hy_121 => (intro w' hSw; (try simp only [S] at hSw); go_simp; (try with_reducible rfl))); (case hs_121 => assumption); (try simp only [Act.put, List.setIfInBounds_toArray, List.set_cons_zero, List.set_cons_succ])
              refine wpAnyH_take (i := 24) (oi := ?oi_122) (v := ?v_122) ?ho_122 ?h1_122 ?h2_122 ?h3_122 ?hq_122 (Or.inl ⟨?hw_122, ?hy_122⟩) ?hs_122 ?rest_122; (case h2_122 => kernel_rfl); (case h3_122 => kernel_rfl); (case ho_122 => (simp only [List.getElem?_toArray, List.getElem?_cons_zero, List.getElem?_cons_succ]; rfl)); (case h1_122 => kernel_rfl); (case hq_122 => exact fun _ _ _ h => h); (case hw_122 => rfl); (case hy_122 => (intro w' hSw; (try simp only [S] at hSw); go_simp; (try with_reducible rfl))); (case hs_122 => assumption); (try simp only [Act.put, List.setIfInBounds_toArray, List.set_cons_zero, List.set_cons_succ])
              refine wpAnyH_done (by kernel_rfl) ?_ _
              go_wp2_with fail
              go_meet
              exact ⟨vbool (by rw [hres]; rfl), hS2⟩
      case rest =>
        obtain ⟨rfl, hbx⟩ := hcut
        have hB2 := HT.out.2.trans (hbx.mono HT.out.2.size)
        cases hso : stepOk l k x
        · have hno : goodE l = false := by
            cases hc : goodE l
            · rfl
            · have h2 := (goodE_iff.1 hc).2
              rw [HL.out.1] at h2
              have h3 := hst.out.1 (okTo_part h2 (by omega))
              rw [hso] at h3
              exact absurd h3.2 (by simp)
          have HN := Lib.hid (And.intro hno hB2)
          clear hno hB2 hbx hso
          go_wp2_with fail
          go_ret
          exact Ret.mk (vbool HN.out.1.symm) HN.out.2
        · have hto' := hst.out.2 ⟨HT.out.1, hso⟩
          have HN := Lib.hid (And.intro hto' hB2)
          clear hto' hB2 hbx hso
          go_wp2_with fail
          go_roundw
          case rel => exact ⟨k + 1, by omega, by go_num, HN.out.2, HN.out.1⟩
          case measure => simp [intOf]; omega
    · obtain rfl : k = n := by omega
      have hi1 : ¬ (k : Int) < (k : Int) := by omega
      have hgg : goodE l = (decide (1 ≤ (k : Int)) && decide ((k : Int) ≤ 3)) := by
        unfold goodE
        rw [(chain_iff l).2 (by rw [HL.out.1]; exact hto), Bool.and_true, HL.out.1]
        by_cases a : 1 ≤ k <;> by_cases b : k ≤ 3 <;> simp [a, b] <;> omega
      have HN := Lib.hid (And.intro hgg hbr)
      clear hgg hbr hto
      by_cases h1 : 1 ≤ (k : Int)
      · have d1 : decide (1 ≤ (k : Int)) = true := decide_eq_true h1
        go_wp2_with fail
        go_ret
        exact Ret.mk (vbool (by rw [HN.out.1, d1, Bool.true_and])) HN.out.2
      · have d1 : decide (1 ≤ (k : Int)) = false := decide_eq_false h1
        go_wp2_with fail
        go_ret
        exact Ret.mk (vbool (by rw [HN.out.1, d1, Bool.false_and])) HN.out.2
end Go.Proofs.Ythmjkgpfnpdddaa
