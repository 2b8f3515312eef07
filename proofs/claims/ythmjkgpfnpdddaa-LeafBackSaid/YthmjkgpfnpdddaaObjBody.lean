/- The walk over object.Body. -/
import Derived.Test.YthmjkgpfnpdddaaObjEq
import Derived.BigQuiet
namespace Go.Proofs.Ythmjkgpfnpdddaa
set_option linter.unusedSimpArgs false
set_option linter.unusedVariables false
open Go.RowKit Go.ChangeShapes Go.WideShapes Go.Sort
attribute [-go_sem] Builtin.append_

set_option maxRecDepth 100000 in
theorem sclone_any {l : List UInt8} {A : Option Addr} {B c : Nat} (hl : l.length ≤ 1099511627776) (w : World) (hB : B ≤ w.heap.size) (hs : Sl w B 1 A l.length (bvs l)) :
    Calls Try.prog 40 #[.slice A l.length c] w fun e w' => ∃ A' c', e = .returned (.slice A' l.length c') ∧ w'.ownsRow w.heap.size 5 1 (.slice A' l.length c') l.length (bvs l) ∧ Below w.heap.size w w' := by
  rcases A with _ | ad
  · have h0 : l.length = 0 := by
      rcases Nat.eq_zero_or_pos l.length with h | h
      · exact h
      · obtain ⟨b, o, h, _⟩ := hs.at_ h
        cases h
    obtain rfl : l = [] := List.eq_nil_of_length_eq_zero h0
    have he : ∀ w : World, (binOp .eql 22 (.slice none 0 c) (.slice none 0 0)).run Try.prog w = .ok (.bool true) w := fun _ => rfl
    go_enter Try.func40, Try.ntmps40
    go_wp2_with fail
    go_ret
    exact ⟨none, 0, rfl, World.ownsRow_nil _ _ _ _, Below.refl _ _⟩
  · have he : ∀ w : World, (binOp .eql 22 (.slice (some ad) l.length c) (.slice none 0 0)).run Try.prog w = .ok (.bool false) w := fun _ => rfl
    go_enter Try.func40, Try.ntmps40
    go_wp2_with (at_builtin; refine wpList_app _ rfl (.tmp 5) (.tmp 6) 22 rfl Try.underlying22 elemC rfl (own_none' w w.heap.size _ _ (Nat.le_refl _)) rfl ((hs.mono hB).below ((Below.refl _ _).alloc (Nat.le_refl _) _)) (oneCell_bvs _) (by simp only [maxLen]; omega) (by omega) (by simp) ?_; intro A2 c2 w2 hown2 hg2 hb2 hat2)
    simp only [Nat.zero_add, List.nil_append] at hown2 ⊢
    go_ret
    exact ⟨A2, c2, rfl, hown2, ((Below.refl _ w).alloc (Nat.le_refl _) _).trans hb2⟩
theorem Sl.cellAt {w : World} {B n : Nat} {A : Option Addr} {l : List UInt8} (h : Sl w B 1 A n (bvs l)) {b o : Nat} (hA : A = some ⟨b, o, none⟩) {i : Nat} (hi : i < n) : w.cell? ⟨b, o + i, none⟩ = some (.int .u8 ((at8 l i).toNat : Int)) := by
  obtain ⟨b', o', e, -, hr⟩ := h.at_ (by omega)
  rw [hA] at e
  simp only [Option.some.injEq, Addr.mk.injEq] at e
  obtain ⟨rfl, rfl, -⟩ := e
  have hl : i < l.length := by have := h.len; rw [bvs_len] at this; omega
  refine hr i _ ?_
  unfold at8
  rw [List.getElem?_eq_getElem hl]
  simp [bvs, bv, hl]
theorem sl_cut {w : World} {B n : Nat} {p o : Nat} {l m : List UInt8} (h : Sl w B 1 (some ⟨p, o, none⟩) n (bvs l)) (k : Nat) {q : Nat} (hm : (l.drop k).take q = m) (hq : m.length = q) (h0 : 0 < n) : Sl w B 1 (some ⟨p, o + k, none⟩) q (bvs m) := by
  obtain ⟨p', o', e, hb, hr⟩ := h.at_ h0
  simp only [Option.some.injEq, Addr.mk.injEq, and_true] at e
  obtain ⟨rfl, rfl⟩ := e
  refine ⟨by rw [bvs_len, hq, Nat.mul_one], fun _ => ⟨p, o + k, rfl, hb, ?_⟩⟩
  have := range_cut hr k q
  rwa [show ((bvs l).drop k).take q = bvs ((l.drop k).take q) from by simp [bvs, List.map_take, List.map_drop], hm] at this
/-- an object, or an error -/
def BodP (w : World) (l : List Blk) (e : Ending) (w' : World) : Prop :=
  ∃ A n c, e = .returned (.tuple #[.int .i64 (kindOf l), .slice A n c, .int .i64 (bodyE l)]) ∧ n = (bodyOf l).length ∧ n ≤ c ∧ c ≤ maxLen ∧ Sl w' w'.heap.size 1 A n (bvs (bodyOf l)) ∧ Below w.heap.size w w'
theorem BodP.no {w w' : World} {l : List Blk} (hn : isO l = false) (h : Below w.heap.size w w') : BodP w l (.returned (.tuple #[.int .i64 0, .slice none 0 0, .int .i64 11])) w' := by
  have e1 : kindOf l = 0 := by unfold kindOf; rw [hn]; rfl
  have e2 : bodyOf l = [] := by unfold bodyOf; rw [hn]; rfl
  have e3 : bodyE l = 11 := by unfold bodyE; rw [hn]; rfl
  refine ⟨none, 0, 0, by rw [e1, e3], by rw [e2]; rfl, Nat.le_refl _, by simp [maxLen], by rw [e2]; exact Sl.nil, h⟩
theorem frame_len8 (kind : Int) (body : List UInt8) : (frameB kind body).length ≤ 8 := by
  cases h : obOk kind body.length
  · unfold frameB; rw [h]; simp
  · have := frame_len h
    have := blocks_rng (body.length : Int)
    omega
/-- the bytes of the first blocks -/
def flatTo (l : List Blk) (k : Nat) : List UInt8 := (l.take k).flatten
theorem flatTo_zero (l : List Blk) : flatTo l 0 = [] := by simp [flatTo]
theorem flatTo_succ {l : List Blk} {k : Nat} {x : Blk} (h : l[k]? = some x) : flatTo l (k + 1) = flatTo l k ++ x := by
  obtain ⟨hk, rfl⟩ := List.getElem?_eq_some_iff.1 h
  unfold flatTo
  rw [List.take_succ_eq_append_getElem hk, List.flatten_append]
  simp
theorem flatTo_len {l : List Blk} (h : All128 l) {k : Nat} (hk : k ≤ l.length) : (flatTo l k).length = k * 128 := by
  unfold flatTo
  rw [flat_len (fun x hx => h x (List.mem_of_mem_take hx)), List.length_take, Nat.min_eq_left hk]
theorem flatTo_all (l : List Blk) : flatTo l l.length = l.flatten := by unfold flatTo; rw [List.take_length]
theorem flat_cell {w : World} {B n c : Nat} {A : Option Addr} {l : List Blk} (h : BAt w B A n c l) {b o : Nat} (hA : A = some ⟨b, o, none⟩) {i : Nat} (hi : i < n * 128) : w.cell? ⟨b, o + i, none⟩ = some (.int .u8 ((at8 l.flatten i).toNat : Int)) := by
  have hs := h.sl
  rw [bsv_flat] at hs
  obtain ⟨b', o', e, -, hr⟩ := hs.at_ (by omega)
  rw [hA] at e
  simp only [Option.some.injEq, Addr.mk.injEq] at e
  obtain ⟨rfl, rfl, -⟩ := e
  have hl : i < l.flatten.length := by rw [flat_len h.all, h.len]; exact hi
  refine hr i _ ?_
  unfold at8
  rw [List.getElem?_eq_getElem hl]
  show (l.flatten.map bv)[i]? = _
  rw [List.getElem?_map, List.getElem?_eq_getElem hl]
  rfl

set_option maxHeartbeats 16000000 in
set_option maxRecDepth 100000 in
theorem body_any {A : Option Addr} {n c : Nat} {l : List Blk} (w : World) (h : BAt w w.heap.size A n c l) (hc : n ≤ 1000000) : Calls Try.prog 16 #[.slice A n c] w (BodP w l) := by
  have hln := h.len
  by_cases h0 : n = 0
  · subst h0
    have hl : l = [] := List.eq_nil_of_length_eq_zero hln
    subst hl
    clear h hln
    go_enter Try.func16, Try.ntmps16
    go_wp2_with fail
    go_ret3
    exact BodP.no rfl (Below.refl _ _)
  · obtain ⟨b, o, rfl, hb, -⟩ := h.sl.at_ (by omega)
    have k1 := flat_cell h rfl (i := 1) (by omega)
    have k2 := flat_cell h rfl (i := 2) (by omega)
    have hor := or16 (at8 l.flatten 1) (at8 l.flatten 2)
    have l1 := (at8 l.flatten 1).toNat_lt
    have l2 := (at8 l.flatten 2).toNat_lt
    have hNn : (obN l : Int) = (((at8 l.flatten 1).toNat * 256 + (at8 l.flatten 2).toNat : Nat) : Int) := rfl
    rw [← hNn] at hor
    have e1 : IntKind.i64.wrap (((at8 l.flatten 1).toNat : Int) * 256) = ((at8 l.flatten 1).toNat : Int) * 256 := wrap_small _ (by omega) (by omega)
    have e2 : IntKind.i64.wrap ((at8 l.flatten 1).toNat : Int) = ((at8 l.flatten 1).toNat : Int) := wrap_small _ (by omega) (by omega)
    have e3 : IntKind.i64.wrap ((at8 l.flatten 2).toNat : Int) = ((at8 l.flatten 2).toNat : Int) := wrap_small _ (by omega) (by omega)
    clear hNn
    generalize (at8 l.flatten 1).toNat = X at *
    generalize (at8 l.flatten 2).toNat = Y at *
    have hg0 : 0 < n := by omega
    have hgi : (0 : Int) < (n : Int) := by omega
    have hn0 : ¬ (n : Int) = 0 := by omega
    have hn0' : ((n : Int) == 0) = false := by simpa using h0
    obtain ⟨N, hN⟩ : ∃ q, obN l = q := ⟨_, rfl⟩
    have hNl : N < 65536 := by rw [← hN]; exact n16_lt _ _
    rw [hN] at hor
    have HH := Lib.hid (And.intro h hN)
    have HL := Lib.hid hln
    clear h hN hln
    go_enter Try.func16, Try.ntmps16
    go_upto_region 3 with (fail)
    go_quiet (fail)
    clear k1 k2 hor e1 e2 e3 l1 l2 hg0 hgi
    obtain ⟨W, hW⟩ : ∃ q, w.drewN nq = q := ⟨_, rfl⟩
    have hB : Below w.heap.size w W := by rw [← hW]; exact bDrewN (Below.refl _ _) nq
    rw [hW]
    clear hW
    have hW0 := HH.out.1.nxt hB
    have hbl := blocks_any N W (by omega) (by omega)
    by_cases hq : (n : Int) = blocksN N
    · rw [← hq] at hbl
      have HH2 := Lib.hid (And.intro hW0 (And.intro hB hq))
      clear hW0 hB hq
      go_upto_region 7 with (first
        | (go_at_call 20; (with_reducible refine Calls.mono hbl ?_); clear hbl; rintro e w' ⟨rfl, rfl⟩)
        | fail)
      have hbz := blkZ
      have hz1 := blk_sizes (a := zblk) zblk_len zblk_len
      go_wp2_with fail
      go_loopw [6, 35] (fun sb si wr => ∃ k : Nat, k ≤ n ∧ si = .int .i64 k ∧ wr.ownsRow W.heap.size 5 1 sb (k * 128) (bvs (flatTo l k)) ∧ Below W.heap.size W wr) (fun _ i _ => n - (intOf i).toNat)
      case atStart => exact ⟨0, by omega, rfl, by rw [flatTo_zero]; exact World.ownsRow_nil _ _ _ _, Below.refl _ _⟩
      case round =>
        obtain ⟨k, hk, rfl, hown, hbr⟩ := hrel
        obtain ⟨A6, c6, rfl, hc6⟩ := own_form hown
        by_cases hlt : k < n
        · obtain ⟨x, hx⟩ : ∃ x, l[k]? = some x := ⟨_, List.getElem?_eq_getElem (by rw [HL.out]; exact hlt)⟩
          have hxo := HH2.out.1.all x (List.mem_of_getElem? hx)
          obtain ⟨b', o', e, hbB, hxr⟩ := HH2.out.1.entry hx
          simp only [Option.some.injEq, Addr.mk.injEq, and_true] at e
          obtain ⟨rfl, rfl⟩ := e
          replace hxr := bRange hbr (by omega) hxr
          have hfs := flatTo_succ hx
          have hxli := bk_linfo hxo
          have hxi := bk_info hxo
          have hone := oneCell_bvs x
          have hxs := blk_sizes zblk_len hxo
          have hi1 : (k : Int) < (n : Int) := by omega
          obtain ⟨Y, hY, y8, bY⟩ := newRow wr (bvs zblk).toArray (bvs x).toArray 40
          have hownY := own_below hown bY
          have hbY := hbr.trans (bY.mono hbr.size)
          have hzY := hbY.size
          have hxs2 : Sl Y Y.heap.size 1 (some ⟨wr.heap.size, 0, none⟩) 128 (bvs x) := by
            have := Sl.new (sz := 1) (n := 128) y8 (by simp [bvs_len, hxo])
            exact this
          have HR := Lib.hid (And.intro hbY hfs)
          clear hown hbr y8 bY hbY hfs
          go_wp2_with (first
            | (refine wpList_load_mid rfl 40 (.tmp 37) rfl b (o + k * 128) rfl (bvs x) _ hxr Try.underlying40 rfl hxli ?_)
            | (refine wpList_new rfl hbz rfl ?_)
            | (refine wpList_store_row rfl 40 (.tmp 8) (.tmp 38) rfl _ (bvs x).toArray rfl rfl _ (bvs zblk).toArray (heap_alloc_new _ _) hxi hxs (all_oneCell_toArray hone) ?_; (try rw [hY]))
            | (at_builtin; go_loud (refine wpList_app _ rfl (.tmp 39) (.tmp 40) 22 rfl (base := W.heap.size) Try.underlying22 elemC rfl hownY rfl hxs2 (oneCell_bvs _) (by simp only [maxLen]; omega) (by omega) hzY ?_; intro A41 c41 w41 hown4 hg4 hb4 hat4))
            | fail)
          refine ⟨⟨k + 1, by omega, by go_num, ?_, HR.out.1.trans hb4⟩, by simp [intOf]; omega⟩
          rw [HR.out.2, bvs_append, show (k + 1) * 128 = k * 128 + 128 by omega]
          exact hown4
        · obtain rfl : k = n := by omega
          have hi1 : ¬ (k : Int) < (k : Int) := by omega
          rw [show flatTo l k = l.flatten by rw [← flatTo_all, HL.out]] at hown
          have hro := room_of HH2.out.1.all (by rw [HL.out, HH.out.2]; exact HH2.out.2.2) (by rintro rfl; exact h0 HL.out.symm)
          rw [HH.out.2, flat_len HH2.out.1.all, HL.out] at hro
          have hs6 := Sl.of_own hown
          obtain ⟨p, q, rfl, hp, -⟩ := hs6.at_ (by omega)
          have k0 := hs6.cellAt rfl (i := 0) (by omega)
          rw [Nat.add_zero] at k0
          have hsb := sl_cut hs6 3 (q := N) (m := obBody l) (by unfold obBody; rw [HH.out.2]) (by rw [obBody_len (by rw [HH.out.2, flat_len HH2.out.1.all, HL.out]; exact hro.2), HH.out.2]) (by omega)
          have hbl' : (obBody l).length = N := by rw [obBody_len (by rw [HH.out.2, flat_len HH2.out.1.all, HL.out]; exact hro.2), HH.out.2]
          have hX0 := (at8 l.flatten 0).toNat_lt
          have hkd : obKind l = (((at8 l.flatten 0).toNat : Nat) : Int) := rfl
          generalize (at8 l.flatten 0).toNat = X0 at *
          have HR := Lib.hid (And.intro hbr (And.intro hkd (And.intro hro hbl')))
          obtain ⟨m, hm⟩ : ∃ m, k * 128 = m := ⟨_, rfl⟩
          rw [hm] at hro hc6 ⊢
          have e1 : IntKind.i64.wrap (X0 : Int) = (X0 : Int) := wrap_small _ (by omega) (by omega)
          have e2 : IntKind.i64.wrap (3 + (N : Int)) = 3 + (N : Int) := wrap_small _ (by omega) (by omega)
          have n1 : (3 + (N : Int)).toNat = 3 + N := by omega
          have n2 : 3 + N - 3 = N := by omega
          have n3 : (3 : Int) + (N : Int) ≤ (c6 : Int) := by omega
          have n4 : (3 : Int) ≤ 3 + (N : Int) := by omega
          have n5 : ¬ c6 = 3 := by omega
          have n6 : 0 < m := by omega
          have n7 : (0 : Int) < (m : Int) := by omega
          have n8 : 3 + N ≤ c6 := by omega
          have hpz : p < wr.heap.size := hp
          have HM := Lib.hid hm
          clear hown hs6 hbr hkd hro hbl' hm
          go_upto_region 12 with (fail)
          let S : World → Prop := fun w' => Below wr.heap.size wr w'
          have hS0 : S wr.drew := (Below.refl _ _).drew
          have r0 := fun w' (h : S w') => ((show Below wr.heap.size wr w' from h).cell (p := ⟨p, q, none⟩) hpz).trans k0
          have rs := fun w' (h : S w') => hsb.below (show Below wr.heap.size wr w' from h)
          clear k0 hsb
          refine wp_region_held (S := S) (by kernel_rfl) ?_
          change wpAnyH _ _ _ _ S _ _ _ wr.drew
          refine wpAnyH_take (i := 0) (oi := ?oi_19) (v := ?v_19) ?ho_19 ?h1_19 ?h2_19 ?h3_19 ?hq_19 (Or.inl ⟨?hw_19, ?hy_19⟩) ?hs_19 ?rest_19; (case h2_19 => kernel_rfl); (case h3_19 => kernel_rfl); (case ho_19 => (simp only [List.getElem?_toArray, List.getElem?_cons_zero, List.getElem?_cons_succ]; rfl)); (case h1_19 => kernel_rfl); (case hq_19 => exact fun _ _ _ h => h); (case hw_19 => rfl); (case hy_19 => (intro w' hSw; (try simp only [S] at hSw); go_simp; (try with_reducible rfl))); (case hs_19 => assumption); (try simp only [Act.put, List.setIfInBounds_toArray, List.set_cons_zero, List.set_cons_succ])
          refine wpAnyH_take (i := 1) (oi := ?oi_20) (v := ?v_20) ?ho_20 ?h1_20 ?h2_20 ?h3_20 ?hq_20 (Or.inl ⟨?hw_20, ?hy_20⟩) ?hs_20 ?rest_20; (case h2_20 => kernel_rfl); (case h3_20 => kernel_rfl); (case ho_20 => (simp only [List.getElem?_toArray, List.getElem?_cons_zero, List.getElem?_cons_succ]; rfl)); (case h1_20 => kernel_rfl); (case hq_20 => exact fun _ _ _ h => h); (case hw_20 => rfl); (case hy_20 => (intro w' hSw; (try simp only [S] at hSw); go_simp; (try with_reducible rfl))); (case hs_20 => assumption); (try simp only [Act.put, List.setIfInBounds_toArray, List.set_cons_zero, List.set_cons_succ])
          refine wpAnyH_take (i := 2) (oi := ?oi_28) (v := ?v_28) ?ho_28 ?h1_28 ?h2_28 ?h3_28 ?hq_28 (Or.inl ⟨?hw_28, ?hy_28⟩) ?hs_28 ?rest_28; (case h2_28 => kernel_rfl); (case h3_28 => kernel_rfl); (case ho_28 => (simp only [List.getElem?_toArray, List.getElem?_cons_zero, List.getElem?_cons_succ]; rfl)); (case h1_28 => kernel_rfl); (case hq_28 => exact fun _ _ _ h => h); (case hw_28 => rfl); (case hy_28 => (intro w' hSw; have hq := r0 w' hSw; go_simp; (try with_reducible rfl))); (case hs_28 => assumption); (try simp only [Act.put, List.setIfInBounds_toArray, List.set_cons_zero, List.set_cons_succ])
          refine wpAnyH_take (i := 3) (oi := ?oi_21) (v := ?v_21) ?ho_21 ?h1_21 ?h2_21 ?h3_21 ?hq_21 (Or.inl ⟨?hw_21, ?hy_21⟩) ?hs_21 ?rest_21; (case h2_21 => kernel_rfl); (case h3_21 => kernel_rfl); (case ho_21 => (simp only [List.getElem?_toArray, List.getElem?_cons_zero, List.getElem?_cons_succ]; rfl)); (case h1_21 => kernel_rfl); (case hq_21 => exact fun _ _ _ h => h); (case hw_21 => rfl); (case hy_21 => (intro w' hSw; (try simp only [S] at hSw); go_simp; (try with_reducible rfl))); (case hs_21 => assumption); (try simp only [Act.put, List.setIfInBounds_toArray, List.set_cons_zero, List.set_cons_succ])
          refine wpAnyH_take (i := 4) (oi := ?oi_22) (v := ?v_22) ?ho_22 ?h1_22 ?h2_22 ?h3_22 ?hq_22 (Or.inl ⟨?hw_22, ?hy_22⟩) ?hs_22 ?rest_22; (case h2_22 => kernel_rfl); (case h3_22 => kernel_rfl); (case ho_22 => (simp only [List.getElem?_toArray, List.getElem?_cons_zero, List.getElem?_cons_succ]; rfl)); (case h1_22 => kernel_rfl); (case hq_22 => exact fun _ _ _ h => h); (case hw_22 => rfl); (case hy_22 => (intro w' hSw; (try simp only [S] at hSw); go_simp; (try with_reducible rfl))); (case hs_22 => assumption); (try simp only [Act.put, List.setIfInBounds_toArray, List.set_cons_zero, List.set_cons_succ])
          refine wpAnyH_take (i := 5) (oi := ?oi_23) (v := ?v_23) ?ho_23 ?h1_23 ?h2_23 ?h3_23 ?hq_23 (Or.inl ⟨?hw_23, ?hy_23⟩) ?hs_23 ?rest_23; (case h2_23 => kernel_rfl); (case h3_23 => kernel_rfl); (case ho_23 => (simp only [List.getElem?_toArray, List.getElem?_cons_zero, List.getElem?_cons_succ]; rfl)); (case h1_23 => kernel_rfl); (case hq_23 => exact fun _ _ _ h => h); (case hw_23 => rfl); (case hy_23 => (intro w' hSw; (try simp only [S] at hSw); go_simp; (try with_reducible rfl))); (case hs_23 => assumption); (try simp only [Act.put, List.setIfInBounds_toArray, List.set_cons_zero, List.set_cons_succ])
          refine wpAnyH_take (i := 6) (oi := ?oi_24) (v := ?v_24) ?ho_24 ?h1_24 ?h2_24 ?h3_24 ?hq_24 (Or.inl ⟨?hw_24, ?hy_24⟩) ?hs_24 ?rest_24; (case h2_24 => kernel_rfl); (case h3_24 => kernel_rfl); (case ho_24 => (simp only [List.getElem?_toArray, List.getElem?_cons_zero, List.getElem?_cons_succ]; rfl)); (case h1_24 => kernel_rfl); (case hq_24 => exact fun _ _ _ h => h); (case hw_24 => rfl); (case hy_24 => (intro w' hSw; (try simp only [S] at hSw); go_simp; (try with_reducible rfl))); (case hs_24 => assumption); (try simp only [Act.put, List.setIfInBounds_toArray, List.set_cons_zero, List.set_cons_succ])
          refine wpAnyH_take (i := 7) (oi := ?oi_25) (v := ?v_25) ?ho_25 ?h1_25 ?h2_25 ?h3_25 ?hq_25 (Or.inl ⟨?hw_25, ?hy_25⟩) ?hs_25 ?rest_25; (case h2_25 => kernel_rfl); (case h3_25 => kernel_rfl); (case ho_25 => (simp only [List.getElem?_toArray, List.getElem?_cons_zero, List.getElem?_cons_succ]; rfl)); (case h1_25 => kernel_rfl); (case hq_25 => exact fun _ _ _ h => h); (case hw_25 => rfl); (case hy_25 => (intro w' hSw; (try simp only [S] at hSw); go_simp; (try with_reducible rfl))); (case hs_25 => assumption); (try simp only [Act.put, List.setIfInBounds_toArray, List.set_cons_zero, List.set_cons_succ])
          have hcl := sclone_any (l := obBody l) (A := some ⟨p, q + 3, none⟩) (B := wr.heap.size) (c := c6 - 3) (by rw [HR.out.2.2.2]; omega) wr.drew (Nat.le_refl _) (by rw [HR.out.2.2.2]; exact rs _ hS0)
          rw [HR.out.2.2.2] at hcl
          refine wpAnyH_ready (rs := [8]) (by kernel_rfl) (by simp) (AllReadyH.cons (o := ?oo8_29) ?hoo8_29 (fun K hK => ?steponly29) AllReadyH.nil); (case hoo8_29 => (simp only [List.getElem?_toArray, List.getElem?_cons_zero, List.getElem?_cons_succ]; rfl))
          go_simp
          refine Calls.mono hcl ?_
          rintro e W8 ⟨A51, c51, rfl, hown8, hb8⟩
          have h8 : S W8 := hS0.trans (hb8.mono (Nat.le_refl _))
          refine hK.out _ _ h8 (fun _ => ?_)
          clear hK K
          (try simp only [Act.put, List.setIfInBounds_toArray, List.set_cons_zero, List.set_cons_succ])
          refine wpAnyH_take (i := 9) (oi := ?oi_26) (v := ?v_26) ?ho_26 ?h1_26 ?h2_26 ?h3_26 ?hq_26 (Or.inl ⟨?hw_26, ?hy_26⟩) ?hs_26 ?rest_26; (case h2_26 => kernel_rfl); (case h3_26 => kernel_rfl); (case ho_26 => (simp only [List.getElem?_toArray, List.getElem?_cons_zero, List.getElem?_cons_succ]; rfl)); (case h1_26 => kernel_rfl); (case hq_26 => exact fun _ _ _ h => h); (case hw_26 => rfl); (case hy_26 => (intro w' hSw; (try simp only [S] at hSw); go_simp; (try with_reducible rfl))); (case hs_26 => assumption); (try simp only [Act.put, List.setIfInBounds_toArray, List.set_cons_zero, List.set_cons_succ])
          refine wpAnyH_take (i := 10) (oi := ?oi_27) (v := ?v_27) ?ho_27 ?h1_27 ?h2_27 ?h3_27 ?hq_27 (Or.inl ⟨?hw_27, ?hy_27⟩) ?hs_27 ?rest_27; (case h2_27 => kernel_rfl); (case h3_27 => kernel_rfl); (case ho_27 => (simp only [List.getElem?_toArray, List.getElem?_cons_zero, List.getElem?_cons_succ]; rfl)); (case h1_27 => kernel_rfl); (case hq_27 => exact fun _ _ _ h => h); (case hw_27 => rfl); (case hy_27 => (intro w' hSw; (try simp only [S] at hSw); go_simp; (try with_reducible rfl))); (case hs_27 => assumption); (try simp only [Act.put, List.setIfInBounds_toArray, List.set_cons_zero, List.set_cons_succ])
          refine wpAnyH_done (by kernel_rfl) ?_ _
          have hb8' : Below wr.heap.size wr W8 := h8
          have hs8 := Sl.of_own hown8
          obtain ⟨A8', c8', e, hnc8, hcm8⟩ := own_form hown8
          simp only [Value.slice.injEq] at e
          obtain ⟨rfl, -, rfl⟩ := e
          have hll := (HH2.out.1.nxt HR.out.1).nxt hb8'
          have hB8 := (HH2.out.2.1.trans (HR.out.1.mono HH2.out.2.1.size)).trans (hb8'.mono (HH2.out.2.1.trans (HR.out.1.mono HH2.out.2.1.size)).size)
          have hfr := frame_any (kind := (X0 : Int)) (c := c51) HR.out.2.2.2 W8 hs8 (Nat.le_refl _)
          obtain ⟨F, hF⟩ : ∃ q, frameB (X0 : Int) (obBody l) = q := ⟨_, rfl⟩
          have hFa := frame_all (X0 : Int) (obBody l)
          have hF8 := frame_len8 (X0 : Int) (obBody l)
          rw [hF] at hfr hFa hF8
          have hiso : isO l = (obOk (X0 : Int) N && (F == l)) := by rw [isO_of HH2.out.1.all (by rw [HL.out, HH.out.2]; exact HH2.out.2.2) (by rintro rfl; exact h0 HL.out.symm), HH.out.2, HR.out.2.1, hF]
          have HS := Lib.hid (And.intro hll (And.intro hB8 (And.intro hFa (And.intro hiso (And.intro hs8 (And.intro hnc8 hcm8))))))
          clear hcl hown8 hb8 h8 hb8' hs8 hll hB8 hF hFa hiso hnc8 hcm8 rs r0 hS0
          go_wp2_with fail
          refine Calls.mono hfr ?_
          rintro e W9 ⟨A11, n11, c11, rfl, hn11, hnc11, hcm11, hs11, hb9⟩
          clear hfr
          cases ho : obOk (X0 : Int) N
          · have eE : frameE (X0 : Int) N = 1 := by unfold frameE; rw [ho]; rfl
            rw [eE]
            have hno : isO l = false := by rw [HS.out.2.2.2.1, ho]; rfl
            have HN := Lib.hid (And.intro hno (bNext HS.out.2.1 hb9))
            clear hno ho hb9 hs11 HS HR HH HH2
            go_wp2_with fail
            go_ret3
            exact BodP.no HN.out.1 HN.out.2
          · have eE : frameE (X0 : Int) N = 0 := by unfold frameE; rw [ho]; rfl
            rw [eE]
            have hba : BAt W9 W9.heap.size A11 n11 c11 F := ⟨HS.out.2.2.1, hn11.symm, hs11, hnc11⟩
            have hbb := HS.out.1.nxt hb9
            have heq := equalb_any W9 hba hbb (Nat.le_refl _) (Nat.le_refl _) (by omega)
            have hB9 := bNext HS.out.2.1 hb9
            have hs9 := HS.out.2.2.2.2.1.next hb9
            have hiso := HS.out.2.2.2.1
            rw [ho, Bool.true_and] at hiso
            have HT := Lib.hid (And.intro hiso (And.intro hB9 (And.intro hs9 HS.out.2.2.2.2.2)))
            clear hiso hB9 hs9 hba hbb hb9 hs11 eE ho hn11
            cases hd : decide (F = l)
            · rw [hd] at heq
              have hno : isO l = false := by rw [HT.out.1]; have := of_decide_eq_false hd; simpa using this
              have HN := Lib.hid hno
              clear hno hd HS
              go_wp2_with (first
                | (go_at_call 41; go_loud (with_reducible refine Calls.mono heq ?_); go_loud (clear heq; rintro e w' ⟨rfl, hbE⟩))
                | fail)
              go_ret3
              exact BodP.no HN.out (bNext HT.out.2.1 hbE)
            · rw [hd] at heq
              have hyes : isO l = true := by rw [HT.out.1]; have := of_decide_eq_true hd; simpa using this
              have HN := Lib.hid hyes
              clear hyes hd HS
              go_wp2_with (first
                | (go_at_call 41; go_loud (with_reducible refine Calls.mono heq ?_); go_loud (clear heq; rintro e w' ⟨rfl, hbE⟩))
                | fail)
              go_ret3
              have q1 : kindOf l = (X0 : Int) := by unfold kindOf; rw [HN.out, if_pos rfl, HR.out.2.1]
              have q2 : bodyOf l = obBody l := by unfold bodyOf; rw [HN.out, if_pos rfl]
              have q3 : bodyE l = 0 := by unfold bodyE; rw [HN.out, if_pos rfl]
              exact ⟨_, _, _, by rw [q1, q3]; rfl, by rw [q2, HR.out.2.2.2], HT.out.2.2.2.1, HT.out.2.2.2.2, by rw [q2]; exact HT.out.2.2.1.next hbE, bNext HT.out.2.1 hbE⟩
    · have hno : isO l = false := not_isO (by rw [HL.out, HH.out.2]; exact hq)
      have HN := Lib.hid (And.intro hB hno)
      clear hB hno hW0 HH
      obtain ⟨M, hM⟩ : ∃ q, blocksN N = q := ⟨_, rfl⟩
      rw [hM] at hq hbl
      have hq' : ((n : Int) == M) = false := by simpa using hq
      go_wp2_with (first
        | (go_at_call 20; (with_reducible refine Calls.mono hbl ?_); clear hbl; rintro e w' ⟨rfl, rfl⟩)
        | fail)
      go_ret3
      exact BodP.no HN.out.2 HN.out.1
end Go.Proofs.Ythmjkgpfnpdddaa
