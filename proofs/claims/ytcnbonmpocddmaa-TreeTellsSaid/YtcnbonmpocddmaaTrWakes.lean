/- The wakes of layer 23. -/
import Derived.Test.YtcnbonmpocddmaaTrRoot
import Derived.Test.YtcnbonmpocddmaaTrKeep
import Derived.Test.YtcnbonmpocddmaaAuto
namespace Go.Proofs.Ytcnbonmpocddmaa
set_option linter.unusedSimpArgs false
set_option linter.unusedVariables false
open Go.RowKit Go.Sort

def wD (k : UInt8) : List UInt8 := k :: List.replicate 31 0
def l4w : List (List UInt8) := [wD 1, wD 2, wD 3, wD 4]
theorem all4 (a b c d : List UInt8) : allN [a, b, c, d] = [nodeB 0 [a, b, c], nodeB 0 [d], nodeB 1 [nK (nodeB 0 [a, b, c]), nK (nodeB 0 [d])]] := by
  simp [allN, levelsT, nodesT, parts3]
theorem all0 : allN [] = [nodeB 0 []] := by simp [allN, levelsT, nodesT, parts3]
theorem words23 : ∃ (d1 d2 d3 d4 cs : Array Value), cs = (dgs l4w).toArray ∧ Try.prog.built 40 [(0, .int .u8 1)] = some d1 ∧ Try.prog.built 40 [(0, .int .u8 2)] = some d2 ∧ Try.prog.built 40 [(0, .int .u8 3)] = some d3 ∧
    Try.prog.built 40 [(0, .int .u8 4)] = some d4 ∧ ∀ w, (Instr.buildSlice 22 4 #[(0, .agg d1), (1, .agg d2), (2, .agg d3), (3, .agg d4)]).run Try.prog w = .ok (.slice (some ⟨w.heap.size, 0, none⟩) 4 4) (w.alloc (.cells cs 40)) := by
  refine ⟨(bvs (wD 1)).toArray, (bvs (wD 2)).toArray, (bvs (wD 3)).toArray, (bvs (wD 4)).toArray, (dgs l4w).toArray, rfl, by kernel_rfl, by kernel_rfl, by kernel_rfl, by kernel_rfl, fun w => ?_⟩
  obtain ⟨i, hi, hzz, hs⟩ := dgZ.info
  refine run_buildSlice w 22 40 4 _ (dgs l4w).toArray i (.agg (bvs (List.replicate 32 0)).toArray) Try.underlying22 hi hzz (by rw [hs]; decide) (by rw [hs]; decide) ?_
  rw [hs]
  kernel_rfl
theorem DgAt.front {w : World} {B n c : Nat} {A : Option Addr} {l : List (List UInt8)} (h : DgAt w B A n c l) {k : Nat} (hk : k ≤ n) : DgAt w B A k c (l.take k) := by
  refine ⟨fun x hx => h.wide x (List.mem_of_mem_take hx), by rw [List.length_take, h.len]; omega, ⟨?_, fun h0 => ?_⟩, Nat.le_trans hk h.cap⟩
  · rw [← dgs_take h.wide, List.length_take, h.sl.len]
    exact Nat.min_eq_left (Nat.mul_le_mul_right _ hk)
  · obtain ⟨b, o, e, hb, hr⟩ := h.sl.at_ (by omega)
    refine ⟨b, o, e, hb, ?_⟩
    rw [← dgs_take h.wide]
    have := range_cut hr 0 (k * 32)
    rwa [Nat.add_zero, List.drop_zero] at this
theorem l4w_wide : ∀ x ∈ l4w, x.length = 32 := by
  intro x hx
  simp only [l4w, List.mem_cons, List.not_mem_nil, or_false] at hx
  rcases hx with rfl | rfl | rfl | rfl <;> simp [wD]
theorem enc_w : encT 1 (l4w.take 2) = some (nodeB 1 [wD 1, wD 2]) := by decide +kernel
theorem enc_b : encT 0 l4w = none := by decide +kernel
theorem nb_len : (nodeB 1 [wD 1, wD 2]).length = 66 := by decide +kernel
theorem dec_w : tLv (nodeB 1 [wD 1, wD 2]) = 1 ∧ tKids (nodeB 1 [wD 1, wD 2]) = l4w.take 2 ∧ tEr (nodeB 1 [wD 1, wD 2]) = 0 := by decide +kernel
theorem nb_at : (nodeB 1 [wD 1, wD 2])[0]? = some 1 ∧ (nodeB 1 [wD 1, wD 2])[1]? = some 2 ∧ (nodeB 1 [wD 1, wD 2])[2]? = some 1 := by decide +kernel
theorem lvT_w : lvT 0 = 1 ∧ lvT 4 = 2 := by decide +kernel
theorem wpList_slice {P : Program} {ops : Array Oper} {rest : List Oper} {o : Oper} {a : Act} {w w' : World} {Q : Exit → Act → World → Prop} (hgd : o.guard = none) (t : TypeId) (k : Nat) (parts : Array (Nat × Operand)) (ho : o.op = .buildSlice t k parts) {v : Value}
    (hrun : (Instr.buildSlice t k (parts.map fun (i, x) => (i, a.eval x))).run P w = .ok v w') (h : wpList P ops Q rest (a.put o.dst v) w') : wpList P ops Q (o :: rest) a w :=
  wpList_plain hgd fun _ hK => by
    unfold Oper.wp execOp
    simp only [ho, Sem.run_bind, hrun, Result.andThen_ok, Sem.run_pure]
    exact hK _ _ h
attribute [-go_sem] Instr.buildSlice
set_option maxHeartbeats 16000000 in
set_option maxRecDepth 100000 in
theorem wakes23_any (w : World) : Calls Try.prog 7 #[] w (Ret w (.bool true)) := by
  obtain ⟨d1, d2, d3, d4, cs, hcs, h1, h2, h3, h4, hbs⟩ := words23
  have hcl : cs.toList = dgs l4w := by rw [hcs]
  have HD := Lib.hid hcl
  clear hcs hcl
  go_enter Try.func7, Try.ntmps7
  go_upto_region 1 with (fail)
  refine wp_region_lit ?_
  refine wpList_built rfl 40 #[(0, .const (.int .u8 1))] rfl (cs := d1) (by simp only [List.map_toArray, List.map_cons, List.map_nil]; exact h1) ?_
  (try simp only [Act.put, List.setIfInBounds_toArray, List.set_cons_zero, List.set_cons_succ])
  refine wpList_built rfl 40 #[(0, .const (.int .u8 2))] rfl (cs := d2) (by simp only [List.map_toArray, List.map_cons, List.map_nil]; exact h2) ?_
  (try simp only [Act.put, List.setIfInBounds_toArray, List.set_cons_zero, List.set_cons_succ])
  refine wpList_built rfl 40 #[(0, .const (.int .u8 3))] rfl (cs := d3) (by simp only [List.map_toArray, List.map_cons, List.map_nil]; exact h3) ?_
  (try simp only [Act.put, List.setIfInBounds_toArray, List.set_cons_zero, List.set_cons_succ])
  refine wpList_built rfl 40 #[(0, .const (.int .u8 4))] rfl (cs := d4) (by simp only [List.map_toArray, List.map_cons, List.map_nil]; exact h4) ?_
  (try simp only [Act.put, List.setIfInBounds_toArray, List.set_cons_zero, List.set_cons_succ])
  refine wpList_slice rfl 22 4 #[(0, .tmp 10), (1, .tmp 11), (2, .tmp 12), (3, .tmp 13)] rfl (by simp only [List.map_toArray, List.map_cons, List.map_nil]; exact hbs w) ?_
  (try simp only [Act.put, List.setIfInBounds_toArray, List.set_cons_zero, List.set_cons_succ])
  clear h1 h2 h3 h4 hbs
  obtain ⟨W1, hW1⟩ : ∃ q, w.alloc (.cells cs 40) = q := ⟨_, rfl⟩
  have y1 : W1.heap[w.heap.size]? = some (.cells cs 40) := by rw [← hW1]; exact heap_alloc_new _ _
  have hB1 : Below w.heap.size w W1 := by rw [← hW1]; exact (Below.refl _ _).alloc (Nat.le_refl _) _
  rw [hW1]
  clear hW1
  have hat1 : DgAt W1 W1.heap.size (some ⟨w.heap.size, 0, none⟩) 4 4 l4w := ⟨l4w_wide, rfl, by have := Sl.new (sz := 32) (n := 4) y1 (by rw [HD.out]; rfl); rw [HD.out] at this; exact this, Nat.le_refl _⟩
  have hnod := allnodes_any W1 hat1 (by omega)
  have h43 : (allN l4w).length = 3 := by rw [l4w, all4]; rfl
  have h4l : (allN l4w).getLast? = (allN l4w)[2]? := by rw [List.getLast?_eq_getElem?, h43]
  obtain ⟨xr, hxr⟩ : ∃ x, (allN l4w)[2]? = some x := ⟨_, List.getElem?_eq_getElem (by omega)⟩
  have hrt : rootT l4w = nK xr := by unfold rootT; rw [h4l, hxr]
  have hsm4 := allN_small l4w_wide
  obtain ⟨ns, hns⟩ : ∃ q, allN l4w = q := ⟨_, rfl⟩
  rw [hns] at hnod h43 hxr hsm4
  clear hns h4l y1
  have HA := Lib.hid (And.intro hat1 hB1)
  clear hat1 hB1
  go_upto_region 2 with (fail)
  go_wp2_with fail
  refine Calls.mono hnod ?_
  rintro e W2 ⟨v, L, rfl, hnd, hb⟩
  clear hnod
  obtain ⟨Av, cv, rfl, -⟩ := own_form hnd.own
  have hat := HA.out.1.nxt hb
  have hB := bNext HA.out.2 hb
  have henc := tenc_any (lv := 1) W2 (hat.front (k := 2) (by omega)) (by omega)
  rw [enc_w] at henc
  have HA2 := Lib.hid (And.intro hat (And.intro hB hnd))
  clear hat hB hnd hb HA
  have H43 := Lib.hid h43
  rw [h43]
  clear h43
  go_upto_region 3 with (fail)
  go_wp2_with fail
  refine Calls.mono henc ?_
  rintro e W3 ⟨A3, c3, rfl, hown, hb⟩
  clear henc
  obtain ⟨hat, hB, hnd⟩ := HA2.out
  replace hat := hat.nxt hb
  replace hB := bNext hB hb
  replace hnd := hnd.below hb
  have hsl := Sl.of_own hown
  obtain ⟨_, _, e3, hc3, hm3⟩ := own_form hown
  cases e3
  have hdec := tdec_any W3 hsl (Nat.le_refl _) (by rw [nb_len]; omega) hc3 hm3
  unfold TDec at hdec
  obtain ⟨t1, t2, t3⟩ := dec_w
  rw [t1, t2, t3] at hdec
  rw [nb_len] at hdec hsl ⊢
  have HA3 := Lib.hid (And.intro hat (And.intro hB (And.intro hnd hsl)))
  clear hat hB hnd hsl hb hown hc3 hm3 t1 t2 t3 HA2
  go_upto_region 4 with (fail)
  go_wp2_with fail
  refine Calls.mono hdec ?_
  rintro e W4 ⟨A4, n4, c4, rfl, hat4, hc4, hb⟩
  clear hdec
  obtain rfl : n4 = 2 := hat4.len.symm
  obtain ⟨hat, hB, hnd, hsl⟩ := HA3.out
  replace hat := hat.nxt hb
  replace hB := bNext hB hb
  replace hnd := hnd.below hb
  replace hsl := hsl.next hb
  have henc := tenc_any (lv := 0) W4 hat (by omega)
  rw [enc_b] at henc
  have HA4 := Lib.hid (And.intro hat (And.intro hB (And.intro hnd (And.intro hsl hat4))))
  clear hat hB hnd hsl hat4 hb HA3
  go_upto_region 5 with (fail)
  go_wp2_with fail
  refine Calls.mono henc ?_
  rintro e Y ⟨rfl, hb⟩
  clear henc
  obtain ⟨hat, hB, hnd, hsl, hat4⟩ := HA4.out
  replace hat := hat.nxt hb
  replace hB := bNext hB hb
  replace hnd := hnd.below hb
  replace hsl := hsl.next hb
  replace hat4 := hat4.nxt hb
  clear hb HA4
  have hLl : L.length = 3 := by have := hnd.txt; have h2 := H43.out; rw [← this, ndT, List.length_map] at h2; exact h2
  obtain ⟨x, hx⟩ : ∃ x, L[2]? = some x := ⟨_, List.getElem?_eq_getElem (by omega)⟩
  have hxn : xr = x.2.2 := by
    have h2 := hnd.txt
    rw [← h2, ndT, List.getElem?_map, hx] at hxr
    simpa using hxr.symm
  obtain ⟨bn, c2, ev, hbn1, hbn2, hbc, -⟩ := hnd.entry hx
  cases ev
  have hnx := hnd.each x (List.mem_of_getElem? hx)
  have hxl : x.2.2.length ≤ 1000000000 := by rw [← hxn]; have := hsm4 _ (List.mem_of_getElem? hxr); omega
  have hof := fun (U : World) (h : Below Y.heap.size Y U) => of_any (kind := 4) (c := x.2.1) hxl U h.size (hnx.sl.below h)
  rw [show u8 4 = (4 : UInt8) from by decide] at hof
  change ∀ U, _ → Calls _ _ _ _ (Ret U (.agg (bvs (nK x.2.2)).toArray)) at hof
  have hroot := fun (U : World) (h : Below Y.heap.size Y U) => root_any U (hat.nxt h) (by omega)
  rw [hrt, hxn] at hroot
  have hkeep := fun (U : World) (h : Below Y.heap.size Y U) => keepd_same U (hat4.nxt h) ((hat.nxt h).front (k := 2) (by omega)) (Nat.le_refl _) (Nat.le_refl _) (by omega)
  have hq := fun W => dg_eq (nK_len x.2.2) W
  obtain ⟨R, hR⟩ : ∃ q, (bvs (nK x.2.2)).toArray = q := ⟨_, rfl⟩
  rw [hR] at hof hroot
  simp only [hR] at hq
  have hnod := fun (U : World) => allnodes_any U (DgAt.nil U U.heap.size) (c := 0) (by omega)
  rw [all0] at hnod
  have hl0 := fun U => levels_any 0 U
  have hl4 := fun U => levels_any 4 U
  rw [lvT_w.1] at hl0
  rw [lvT_w.2] at hl4
  unfold slv at hbc
  obtain ⟨b3, o3, rfl, hb3, hr3⟩ := hsl.at_ (by omega)
  have k0 : Y.cell? ⟨b3, o3, none⟩ = some (.int .u8 1) := hr3 0 _ (by simp [bvs, bv, nb_at])
  have k1 : Y.cell? ⟨b3, o3 + 1, none⟩ = some (.int .u8 2) := hr3 1 _ (by simp [bvs, bv, nb_at])
  have k2 : Y.cell? ⟨b3, o3 + 2, none⟩ = some (.int .u8 1) := hr3 2 _ (by simp [bvs, bv, nb_at])
  obtain ⟨nx, hnxx⟩ : ∃ q, x.2.2.length = q := ⟨_, rfl⟩
  rw [hnxx] at hbc hof
  clear hR hxn hxr hx hLl hsl hr3 hnd hnx hxl hnxx hat hat4 hbn1 hsm4 hrt
  let S : World → Prop := fun w' => Below Y.heap.size Y w'
  have q0 : ∀ w', S w' → w'.cell? ⟨b3, o3, none⟩ = some (.int .u8 1) := fun w' h => (Below.cell (show Below Y.heap.size Y w' from h) (p := ⟨b3, o3, none⟩) hb3).trans k0
  have q1 : ∀ w', S w' → w'.cell? ⟨b3, o3 + 1, none⟩ = some (.int .u8 2) := fun w' h => (Below.cell (show Below Y.heap.size Y w' from h) (p := ⟨b3, o3 + 1, none⟩) hb3).trans k1
  have q2 : ∀ w', S w' → w'.cell? ⟨b3, o3 + 2, none⟩ = some (.int .u8 1) := fun w' h => (Below.cell (show Below Y.heap.size Y w' from h) (p := ⟨b3, o3 + 2, none⟩) hb3).trans k2
  have qn : ∀ w', S w' → w'.cell? ⟨bn, 2, none⟩ = some (.slice x.1 nx x.2.1) := fun w' h => (Below.cell (show Below Y.heap.size Y w' from h) (p := ⟨bn, 2, none⟩) hbn2).trans hbc
  have hS0 : S Y.drew := (Below.refl _ _).drew
  have HB := Lib.hid hB
  clear k0 k1 k2 hbc hB
  go_upto_region 8 with (fail)
  refine wp_region_held (S := S) (by kernel_rfl) ?_
  change wpAnyH _ _ _ _ S _ _ _ Y.drew
  try simp only [List.append_eq, List.cons_append, List.nil_append]
  change At 0 _
  iterate 28 (first | (apply tkA; (case hi => (simp only [List.getElem?_toArray, List.getElem?_cons_zero, List.getElem?_cons_succ]; rfl)); (case hw => rfl); (case hy => (intro w' hSw; have p0 := q0 w' hSw; have p1 := q1 w' hSw; have p2 := q2 w' hSw; (try simp only [S] at hSw); go_simp; (try with_reducible rfl))); (case hs => kernel_rfl); (case hf => kernel_rfl); (case hr => kernel_rfl); (case hQ => exact fun _ _ _ h => h); (case hS => assumption); (try simp only [Act.put, List.setIfInBounds_toArray, List.set_cons_zero, List.set_cons_succ, Nat.reduceAdd])) | (apply skA; (case hi => (simp only [List.getElem?_toArray, List.getElem?_cons_zero, List.getElem?_cons_succ]; rfl)); (case hw => rfl); (case hs => kernel_rfl); (case hf => kernel_rfl); (case hr => kernel_rfl); (case hQ => exact fun _ _ _ h => h); (case hS => assumption); (try simp only [Act.put, List.setIfInBounds_toArray, List.set_cons_zero, List.set_cons_succ, Nat.reduceAdd])))
  change wpAnyH _ _ _ _ _ _ _ _ _
  refine wpAnyH_ready (rs := [28]) (by kernel_rfl) (by simp) (AllReadyH.cons (o := ?oo28_1) ?hoo28_1 (fun K hK => ?steponly1) AllReadyH.nil); (case hoo28_1 => (simp only [List.getElem?_toArray, List.getElem?_cons_zero, List.getElem?_cons_succ]; rfl))
  go_simp
  refine Calls.mono (hkeep _ hS0) ?_
  rintro e U1 ⟨rfl, hbU1⟩
  have hSU1 : S U1 := (show Below Y.heap.size Y Y.drew from hS0).trans (hbU1.mono (Below.size (show Below Y.heap.size Y Y.drew from hS0)))
  refine hK.out _ _ hSU1 (fun _ => ?_)
  clear hK K hbU1
  (try simp only [Act.put, List.setIfInBounds_toArray, List.set_cons_zero, List.set_cons_succ])
  clear hkeep
  change At 29 _
  iterate 7 (first | (apply tkA; (case hi => (simp only [List.getElem?_toArray, List.getElem?_cons_zero, List.getElem?_cons_succ]; rfl)); (case hw => rfl); (case hy => (intro w' hSw; (try simp only [S] at hSw); go_simp; (try with_reducible rfl))); (case hs => kernel_rfl); (case hf => kernel_rfl); (case hr => kernel_rfl); (case hQ => exact fun _ _ _ h => h); (case hS => assumption); (try simp only [Act.put, List.setIfInBounds_toArray, List.set_cons_zero, List.set_cons_succ, Nat.reduceAdd])) | (apply skA; (case hi => (simp only [List.getElem?_toArray, List.getElem?_cons_zero, List.getElem?_cons_succ]; rfl)); (case hw => rfl); (case hs => kernel_rfl); (case hf => kernel_rfl); (case hr => kernel_rfl); (case hQ => exact fun _ _ _ h => h); (case hS => assumption); (try simp only [Act.put, List.setIfInBounds_toArray, List.set_cons_zero, List.set_cons_succ, Nat.reduceAdd])))
  change wpAnyH _ _ _ _ _ _ _ _ _
  change At 37 _
  iterate 3 (first | (apply tkA; (case hi => (simp only [List.getElem?_toArray, List.getElem?_cons_zero, List.getElem?_cons_succ]; rfl)); (case hw => rfl); (case hy => (intro w' hSw; have pn := qn w' hSw; (try simp only [S] at hSw); go_simp; (try with_reducible rfl))); (case hs => kernel_rfl); (case hf => kernel_rfl); (case hr => kernel_rfl); (case hQ => exact fun _ _ _ h => h); (case hS => assumption); (try simp only [Act.put, List.setIfInBounds_toArray, List.set_cons_zero, List.set_cons_succ, Nat.reduceAdd])) | (apply skA; (case hi => (simp only [List.getElem?_toArray, List.getElem?_cons_zero, List.getElem?_cons_succ]; rfl)); (case hw => rfl); (case hs => kernel_rfl); (case hf => kernel_rfl); (case hr => kernel_rfl); (case hQ => exact fun _ _ _ h => h); (case hS => assumption); (try simp only [Act.put, List.setIfInBounds_toArray, List.set_cons_zero, List.set_cons_succ, Nat.reduceAdd])))
  change wpAnyH _ _ _ _ _ _ _ _ _
  refine wpAnyH_ready (rs := [36]) (by kernel_rfl) (by simp) (AllReadyH.cons (o := ?oo36_2) ?hoo36_2 (fun K hK => ?steponly2) AllReadyH.nil); (case hoo36_2 => (simp only [List.getElem?_toArray, List.getElem?_cons_zero, List.getElem?_cons_succ]; rfl))
  go_simp
  refine Calls.mono (hroot _ hSU1) ?_
  rintro e U2 ⟨rfl, hbU2⟩
  have hSU2 : S U2 := (show Below Y.heap.size Y U1 from hSU1).trans (hbU2.mono (Below.size (show Below Y.heap.size Y U1 from hSU1)))
  refine hK.out _ _ hSU2 (fun _ => ?_)
  clear hK K hbU2
  (try simp only [Act.put, List.setIfInBounds_toArray, List.set_cons_zero, List.set_cons_succ])
  refine wpAnyH_ready (rs := [40]) (by kernel_rfl) (by simp) (AllReadyH.cons (o := ?oo40_3) ?hoo40_3 (fun K hK => ?steponly3) AllReadyH.nil); (case hoo40_3 => (simp only [List.getElem?_toArray, List.getElem?_cons_zero, List.getElem?_cons_succ]; rfl))
  go_simp
  refine Calls.mono (hof _ hSU2) ?_
  rintro e U3 ⟨rfl, hbU3⟩
  have hSU3 : S U3 := (show Below Y.heap.size Y U2 from hSU2).trans (hbU3.mono (Below.size (show Below Y.heap.size Y U2 from hSU2)))
  refine hK.out _ _ hSU3 (fun _ => ?_)
  clear hK K hbU3
  (try simp only [Act.put, List.setIfInBounds_toArray, List.set_cons_zero, List.set_cons_succ])
  clear hroot hof
  change At 41 _
  iterate 3 (first | (apply tkA; (case hi => (simp only [List.getElem?_toArray, List.getElem?_cons_zero, List.getElem?_cons_succ]; rfl)); (case hw => rfl); (case hy => (intro w' hSw; (try simp only [S] at hSw); go_simp; (try with_reducible rfl))); (case hs => kernel_rfl); (case hf => kernel_rfl); (case hr => kernel_rfl); (case hQ => exact fun _ _ _ h => h); (case hS => assumption); (try simp only [Act.put, List.setIfInBounds_toArray, List.set_cons_zero, List.set_cons_succ, Nat.reduceAdd])) | (apply skA; (case hi => (simp only [List.getElem?_toArray, List.getElem?_cons_zero, List.getElem?_cons_succ]; rfl)); (case hw => rfl); (case hs => kernel_rfl); (case hf => kernel_rfl); (case hr => kernel_rfl); (case hQ => exact fun _ _ _ h => h); (case hS => assumption); (try simp only [Act.put, List.setIfInBounds_toArray, List.set_cons_zero, List.set_cons_succ, Nat.reduceAdd])))
  change wpAnyH _ _ _ _ _ _ _ _ _
  refine wpAnyH_ready (rs := [44]) (by kernel_rfl) (by simp) (AllReadyH.cons (o := ?oo44_4) ?hoo44_4 (fun K hK => ?steponly4) AllReadyH.nil); (case hoo44_4 => (simp only [List.getElem?_toArray, List.getElem?_cons_zero, List.getElem?_cons_succ]; rfl))
  go_simp
  refine Calls.mono (hl0 _) ?_
  rintro e U4 ⟨rfl, hbU4⟩
  have hSU4 : S U4 := (show Below Y.heap.size Y U3 from hSU3).trans (hbU4.mono (Below.size (show Below Y.heap.size Y U3 from hSU3)))
  refine hK.out _ _ hSU4 (fun _ => ?_)
  clear hK K hbU4
  (try simp only [Act.put, List.setIfInBounds_toArray, List.set_cons_zero, List.set_cons_succ])
  change At 45 _
  iterate 3 (first | (apply tkA; (case hi => (simp only [List.getElem?_toArray, List.getElem?_cons_zero, List.getElem?_cons_succ]; rfl)); (case hw => rfl); (case hy => (intro w' hSw; (try simp only [S] at hSw); go_simp; (try with_reducible rfl))); (case hs => kernel_rfl); (case hf => kernel_rfl); (case hr => kernel_rfl); (case hQ => exact fun _ _ _ h => h); (case hS => assumption); (try simp only [Act.put, List.setIfInBounds_toArray, List.set_cons_zero, List.set_cons_succ, Nat.reduceAdd])) | (apply skA; (case hi => (simp only [List.getElem?_toArray, List.getElem?_cons_zero, List.getElem?_cons_succ]; rfl)); (case hw => rfl); (case hs => kernel_rfl); (case hf => kernel_rfl); (case hr => kernel_rfl); (case hQ => exact fun _ _ _ h => h); (case hS => assumption); (try simp only [Act.put, List.setIfInBounds_toArray, List.set_cons_zero, List.set_cons_succ, Nat.reduceAdd])))
  change wpAnyH _ _ _ _ _ _ _ _ _
  refine wpAnyH_ready (rs := [48]) (by kernel_rfl) (by simp) (AllReadyH.cons (o := ?oo48_5) ?hoo48_5 (fun K hK => ?steponly5) AllReadyH.nil); (case hoo48_5 => (simp only [List.getElem?_toArray, List.getElem?_cons_zero, List.getElem?_cons_succ]; rfl))
  go_simp
  refine Calls.mono (hl4 _) ?_
  rintro e U5 ⟨rfl, hbU5⟩
  have hSU5 : S U5 := (show Below Y.heap.size Y U4 from hSU4).trans (hbU5.mono (Below.size (show Below Y.heap.size Y U4 from hSU4)))
  refine hK.out _ _ hSU5 (fun _ => ?_)
  clear hK K hbU5
  (try simp only [Act.put, List.setIfInBounds_toArray, List.set_cons_zero, List.set_cons_succ])
  change At 49 _
  iterate 3 (first | (apply tkA; (case hi => (simp only [List.getElem?_toArray, List.getElem?_cons_zero, List.getElem?_cons_succ]; rfl)); (case hw => rfl); (case hy => (intro w' hSw; (try simp only [S] at hSw); go_simp; (try with_reducible rfl))); (case hs => kernel_rfl); (case hf => kernel_rfl); (case hr => kernel_rfl); (case hQ => exact fun _ _ _ h => h); (case hS => assumption); (try simp only [Act.put, List.setIfInBounds_toArray, List.set_cons_zero, List.set_cons_succ, Nat.reduceAdd])) | (apply skA; (case hi => (simp only [List.getElem?_toArray, List.getElem?_cons_zero, List.getElem?_cons_succ]; rfl)); (case hw => rfl); (case hs => kernel_rfl); (case hf => kernel_rfl); (case hr => kernel_rfl); (case hQ => exact fun _ _ _ h => h); (case hS => assumption); (try simp only [Act.put, List.setIfInBounds_toArray, List.set_cons_zero, List.set_cons_succ, Nat.reduceAdd])))
  change wpAnyH _ _ _ _ _ _ _ _ _
  refine wpAnyH_ready (rs := [52]) (by kernel_rfl) (by simp) (AllReadyH.cons (o := ?oo52_6) ?hoo52_6 (fun K hK => ?steponly6) AllReadyH.nil); (case hoo52_6 => (simp only [List.getElem?_toArray, List.getElem?_cons_zero, List.getElem?_cons_succ]; rfl))
  go_simp
  refine Calls.mono (hnod _) ?_
  rintro e U6 ⟨vN, LN, rfl, hndN, hbU6⟩
  obtain ⟨AN, cN, rfl, -⟩ := own_form hndN.own
  clear hndN
  have hSU6 : S U6 := (show Below Y.heap.size Y U5 from hSU5).trans (hbU6.mono (Below.size (show Below Y.heap.size Y U5 from hSU5)))
  refine hK.out _ _ hSU6 (fun _ => ?_)
  clear hK K hbU6
  (try simp only [Act.put, List.setIfInBounds_toArray, List.set_cons_zero, List.set_cons_succ])
  change At 53 _
  iterate 4 (first | (apply tkA; (case hi => (simp only [List.getElem?_toArray, List.getElem?_cons_zero, List.getElem?_cons_succ]; rfl)); (case hw => rfl); (case hy => (intro w' hSw; (try simp only [S] at hSw); go_simp; (try with_reducible rfl))); (case hs => kernel_rfl); (case hf => kernel_rfl); (case hr => kernel_rfl); (case hQ => exact fun _ _ _ h => h); (case hS => assumption); (try simp only [Act.put, List.setIfInBounds_toArray, List.set_cons_zero, List.set_cons_succ, Nat.reduceAdd])) | (apply skA; (case hi => (simp only [List.getElem?_toArray, List.getElem?_cons_zero, List.getElem?_cons_succ]; rfl)); (case hw => rfl); (case hs => kernel_rfl); (case hf => kernel_rfl); (case hr => kernel_rfl); (case hQ => exact fun _ _ _ h => h); (case hS => assumption); (try simp only [Act.put, List.setIfInBounds_toArray, List.set_cons_zero, List.set_cons_succ, Nat.reduceAdd])))
  change wpAnyH _ _ _ _ _ _ _ _ _
  refine wpAnyH_done (by kernel_rfl) ?_ _
  have HE := Lib.hid (show Below Y.heap.size Y _ from hSU6)
  clear hS0 hSU1 hSU2 hSU3 hSU4 hSU5 hSU6 q0 q1 q2 qn hnod
  go_wp2_with fail
  refine bodyPost_ret (by simp [results, Try.results7, Act.put, go_sem]; try rfl) rfl ?_
  exact Ret.mk rfl (bNext HB.out HE.out)
end Go.Proofs.Ytcnbonmpocddmaa
