/- The walks over the reference's Cut and Frame. -/
import Derived.Test.YthmjkgpfnpdddaaObjBody
namespace Go.Proofs.Ythmjkgpfnpdddaa
set_option linter.unusedSimpArgs false
set_option linter.unusedVariables false
open Go.RowKit Go.ChangeShapes Go.WideShapes Go.Sort

theorem wpList_slice1 {P : Program} {ops : Array Oper} {rest : List Oper} {o : Oper} {a : Act} {w w' : World} {Q : Exit → Act → World → Prop} (hgd : o.guard = none) (t : TypeId) (k : Nat) (parts : Array (Nat × Operand)) (ho : o.op = .buildSlice t k parts) {v : Value}
    (hrun : (Instr.buildSlice t k (parts.map fun (i, x) => (i, a.eval x))).run P w = .ok v w') (h : wpList P ops Q rest (a.put o.dst v) w') : wpList P ops Q (o :: rest) a w :=
  wpList_plain hgd fun _ hK => by
    unfold Oper.wp execOp
    simp only [ho, Sem.run_bind, hrun, Result.andThen_ok, Sem.run_pure]
    exact hK _ _ h
def cutTo (l : List UInt8) (k : Nat) : List Blk := (List.range k).map (blkAt l)
theorem cutTo_succ (l : List UInt8) (k : Nat) : bsv (cutTo l (k + 1)) = bsv (cutTo l k) ++ bvs (blkAt l k) := by
  unfold cutTo bsv
  rw [List.range_succ, List.map_append, List.flatMap_append]
  simp
attribute [-go_sem] Builtin.append_
set_option maxHeartbeats 16000000 in
set_option maxRecDepth 100000 in
theorem rcut_any {A : Option Addr} {n c : Nat} {l : List UInt8} (w : World) (hs : Sl w w.heap.size 1 A n (bvs l)) (hl : l.length = n) (hn : n ≤ 100000) (hc : n ≤ c) (hcm : c ≤ maxLen) :
    Calls Try.prog 38 #[.slice A n c] w fun e w' => ∃ A' c', e = .returned (.slice A' (cutN n) c') ∧ w'.ownsRow w.heap.size 40 128 (.slice A' (cutN n) c') (cutN n) (bsv (cutB l)) ∧ Below w.heap.size w w' := by
  have hcn : cutN n = (n + 127) / 128 := rfl
  have hcb : cutB l = cutTo l (cutN n) := by unfold cutB cutTo; rw [hl]
  obtain ⟨C, hC⟩ : ∃ q, cutN n = q := ⟨_, rfl⟩
  rw [hC] at hcn hcb
  rw [hC, hcb]
  have hc1 : 128 * C ≤ n + 127 := by omega
  have hc2 : n ≤ 128 * C := by omega
  clear hC hcb hcn
  have HS := Lib.hid (And.intro hs (And.intro hl hcm))
  clear hs hl hcm
  go_enter Try.func38, Try.ntmps38
  go_wp2_with fail
  go_loopw [3, 4] (fun so sa wr => ∃ k : Nat, k ≤ C ∧ sa = .int .i64 (128 * k : Nat) ∧ wr.ownsRow w.heap.size 40 128 so k (bsv (cutTo l k)) ∧ Below w.heap.size w wr) (fun _ a _ => n + 128 - (intOf a).toNat)
  case atStart => exact ⟨0, by omega, rfl, World.ownsRow_nil _ _ _ _, Below.refl _ _⟩
  case round =>
    obtain ⟨k, hk, rfl, hown, hbr⟩ := hrel
    obtain ⟨A3, c3, rfl, -⟩ := own_form hown
    obtain ⟨t, ht⟩ : ∃ t, 128 * k = t := ⟨_, rfl⟩
    by_cases hlt : k < C
    · have htn : t < n := by omega
      obtain ⟨p, q, rfl, hp, hpr⟩ := HS.out.1.at_ (by omega)
      have hrr := bRange hbr hp hpr
      have r1 := range_cut hrr t 128
      have hl := HS.out.2.1
      rw [show ((bvs l).drop t).take 128 = bvs ((l.drop (128 * k)).take 128) from by rw [ht]; simp [bvs, List.map_take, List.map_drop]] at r1
      have hbl := blkAt_len l k
      have hbd : blkAt l k = pad ((l.drop (128 * k)).take 128) := rfl
      have hsuc := cutTo_succ l k
      obtain ⟨ck, hck⟩ : ∃ q, (l.drop (128 * k)).take 128 = q := ⟨_, rfl⟩
      have hclm : ck.length = Nat.min (n - t) 128 := by rw [← hck, List.length_take, List.length_drop, hl, ht, Nat.min_comm]
      have hcl8 : ck.length ≤ 128 := by rw [hclm]; exact Nat.min_le_right _ _
      rw [hck] at r1 hbd
      clear hck
      obtain ⟨V1, hV1⟩ : ∃ q, (wr.alloc (.cells (bvs zblk).toArray 40)).drew = q := ⟨_, rfl⟩
      have v1 : V1.heap[wr.heap.size]? = some (.cells (bvs zblk).toArray 40) := by rw [← hV1]; exact heap_alloc_new _ _
      have hbV1 : Below wr.heap.size wr V1 := by rw [← hV1]; exact ((Below.refl _ _).alloc (Nat.le_refl _) _).drew
      have hzr := hbr.size
      have r1' := bRange hbV1 (by omega) r1
      have hcopy := fun ty => run_copy_cells (P := Try.prog) V1 22 22 ty 5 wr.heap.size 0 128 128 ⟨p, q + t, none⟩ (n - t) (c - t) (bvs ck) Try.underlying22 (by kernel_rfl) (by rw [bvs_len]; exact hclm) (fun j v hj => by rw [addr_add]; exact r1' j v hj)
        (fun j hj => ((there_blk v1 (o := 0) (n := 128) (by rw [List.size_toArray, bvs_len, zblk_len]; omega)) j (by rw [bvs_len] at hj; omega)).1) (fun j hj => blk_frozen v1 _) (oneCell_bvs _)
      obtain ⟨V2, hV2⟩ : ∃ X, V1.setCells wr.heap.size 0 (bvs ck) = X := ⟨_, rfl⟩
      rw [hV2, bvs_len] at hcopy
      have v2 : V2.heap[wr.heap.size]? = some (.cells (bvs (blkAt l k)).toArray 40) := by
        rw [← hV2]
        have := blk_sets (bvs ck) 0 v1
        rw [pad_cells hcl8, ← hbd] at this
        exact this
      have hbV2 : Below wr.heap.size wr V2 := by
        rw [← hV2]
        exact hbV1.trans ((but_sets (X := fun k => k = wr.heap.size) _ _ _ (But.refl _ _ _) rfl).below (Nat.le_refl _) (fun k e => by omega))
      obtain ⟨bb, hbb⟩ : ∃ q, blkAt l k = q := ⟨_, rfl⟩
      rw [hbb] at v2 hbl hbd hsuc
      have hown2 := own_below hown hbV2
      have hb2 := hbr.trans (hbV2.mono hzr)
      have hcS : Sl (V2.alloc (.cells (bvs bb).toArray 40)) (V2.alloc (.cells (bvs bb).toArray 40)).heap.size 128 (some ⟨V2.heap.size, 0, none⟩) 1 (bvs bb) := Sl.new (sz := 128) (n := 1) (heap_alloc_new _ _) (by simp [bvs_len, hbl])
      have hinf := bk_info hbl
      have hone := oneCell_bvs bb
      have hbs := fun W => run_slice1 (P := Try.prog) (t := 23) blkZ Try.underlying23 (by rw [List.size_toArray, bvs_len, zblk_len]) (by omega) (by omega) (bvs bb) (by rw [bvs_len, hbl]) W
      have HR := Lib.hid (And.intro hb2 hsuc)
      have HV := Lib.hid hV1
      have hz2 := hb2.size
      rw [ht]
      clear hown hbr hp hpr hrr r1 r1' hbV1 hV1 hV2 hbV2 hbd hb2 hbb hsuc v1 hclm
      have i1 : (t : Int) < (n : Int) := by omega
      have i2 : (t : Int) ≤ (n : Int) := by omega
      have i3 : (t : Int) ≤ (c : Int) := by omega
      have i4 : ¬ c = t := by omega
      have i5 : t ≤ n := by omega
      have i6 : t ≤ c := by omega
      go_upto_region 6 with (first | (refine wpList_new rfl blkZ rfl ?_) | fail)
      let S : World → Prop := fun _ => True
      refine wp_region_held (S := S) (by kernel_rfl) ?_
      change wpAnyH _ _ _ _ S _ _ _ (wr.alloc (.cells (bvs zblk).toArray 40)).drew
      rw [HV.out]
      have hS0 : S V1 := trivial
      refine wpAnyH_take (i := 0) (oi := ?oi_1) (v := ?v_1) ?ho_1 ?h1_1 ?h2_1 ?h3_1 ?hq_1 (Or.inl ⟨?hw_1, ?hy_1⟩) ?hs_1 ?rest_1; (case h2_1 => kernel_rfl); (case h3_1 => kernel_rfl); (case ho_1 => (simp only [List.getElem?_toArray, List.getElem?_cons_zero, List.getElem?_cons_succ]; rfl)); (case h1_1 => kernel_rfl); (case hq_1 => exact fun _ _ _ h => h); (case hw_1 => rfl); (case hy_1 => (intro w' hSw; (try simp only [S] at hSw); go_simp; (try with_reducible rfl))); (case hs_1 => assumption); (try simp only [Act.put, List.setIfInBounds_toArray, List.set_cons_zero, List.set_cons_succ])
      refine wpAnyH_take (i := 1) (oi := ?oi_2) (v := ?v_2) ?ho_2 ?h1_2 ?h2_2 ?h3_2 ?hq_2 (Or.inl ⟨?hw_2, ?hy_2⟩) ?hs_2 ?rest_2; (case h2_2 => kernel_rfl); (case h3_2 => kernel_rfl); (case ho_2 => (simp only [List.getElem?_toArray, List.getElem?_cons_zero, List.getElem?_cons_succ]; rfl)); (case h1_2 => kernel_rfl); (case hq_2 => exact fun _ _ _ h => h); (case hw_2 => rfl); (case hy_2 => (intro w' hSw; (try simp only [S] at hSw); go_simp; (try with_reducible rfl))); (case hs_2 => assumption); (try simp only [Act.put, List.setIfInBounds_toArray, List.set_cons_zero, List.set_cons_succ])
      refine wpAnyH_take (i := 2) (oi := ?oi_3) (v := ?v_3) ?ho_3 ?h1_3 ?h2_3 ?h3_3 ?hq_3 (Or.inl ⟨?hw_3, ?hy_3⟩) ?hs_3 ?rest_3; (case h2_3 => kernel_rfl); (case h3_3 => kernel_rfl); (case ho_3 => (simp only [List.getElem?_toArray, List.getElem?_cons_zero, List.getElem?_cons_succ]; rfl)); (case h1_3 => kernel_rfl); (case hq_3 => exact fun _ _ _ h => h); (case hw_3 => rfl); (case hy_3 => (intro w' hSw; (try simp only [S] at hSw); go_simp; (try with_reducible rfl))); (case hs_3 => assumption); (try simp only [Act.put, List.setIfInBounds_toArray, List.set_cons_zero, List.set_cons_succ])
      refine wpAnyH_take (i := 3) (oi := ?oi_4) (v := ?v_4) ?ho_4 ?h1_4 ?h2_4 ?h3_4 ?hq_4 (Or.inl ⟨?hw_4, ?hy_4⟩) ?hs_4 ?rest_4; (case h2_4 => kernel_rfl); (case h3_4 => kernel_rfl); (case ho_4 => (simp only [List.getElem?_toArray, List.getElem?_cons_zero, List.getElem?_cons_succ]; rfl)); (case h1_4 => kernel_rfl); (case hq_4 => exact fun _ _ _ h => h); (case hw_4 => rfl); (case hy_4 => (intro w' hSw; (try simp only [S] at hSw); go_simp; (try with_reducible rfl))); (case hs_4 => assumption); (try simp only [Act.put, List.setIfInBounds_toArray, List.set_cons_zero, List.set_cons_succ])
      refine wpAnyH_ready (rs := [4]) (by kernel_rfl) (by simp) (AllReadyH.cons (o := ?oo4_5) ?hoo4_5 (fun K hK => ?steponly5) AllReadyH.nil); (case hoo4_5 => (simp only [List.getElem?_toArray, List.getElem?_cons_zero, List.getElem?_cons_succ]; rfl))
      go_simp
      refine hK.out _ _ trivial (fun _ => ?_)
      clear hK K
      (try simp only [Act.put, List.setIfInBounds_toArray, List.set_cons_zero, List.set_cons_succ])
      refine wpAnyH_done (by kernel_rfl) ?_ _
      go_upto_region 7 with (fail)
      refine wp_region_lit ?_
      iterate 3 (first | go_guarded | go_step)
      refine wpList_load_row rfl 40 (.tmp 5) rfl _ rfl _ (bvs bb).toArray (0, 0) _ v2 Try.underlying40 rfl hinf ?_
      (try simp only [Act.put, List.setIfInBounds_toArray, List.set_cons_zero, List.set_cons_succ])
      refine wpList_slice1 (v := .slice (some ⟨V2.heap.size, 0, none⟩) 1 1) (w' := V2.alloc (.cells (bvs bb).toArray 40)) rfl 23 1 #[(0, .tmp 18)] rfl (by simp only [List.map_toArray, List.map_cons, List.map_nil]; exact hbs V2) ?_
      (try simp only [Act.put, List.setIfInBounds_toArray, List.set_cons_zero, List.set_cons_succ])
      refine wpList_app _ rfl (.tmp 17) (.tmp 19) 23 rfl (base := w.heap.size) Try.underlying23 elemB rfl (hown2.alloc _) rfl hcS hone (by simp only [maxLen]; omega) (by omega) (by simp; omega) ?_
      intro A20 c20 w20 hown4 hg4 hb4 hat4
      (try simp only [Act.put, List.setIfInBounds_toArray, List.set_cons_zero, List.set_cons_succ])
      have hB4 := (HR.out.1.alloc hz2 (.cells (bvs bb).toArray 40)).trans hb4
      have hown5 : w20.ownsRow w.heap.size 40 128 (.slice A20 (k + 1) c20) (k + 1) (bsv (cutTo l (k + 1))) := by rw [HR.out.2]; exact hown4
      have HF := Lib.hid (And.intro hown5 hB4)
      have e11 : IntKind.i64.wrap ((t : Int) + 128) = (t : Int) + 128 := wrap_small _ (by omega) (by omega)
      have HT := Lib.hid ht
      clear hown4 hg4 hb4 hat4 hB4 hown5 hown2 hcS hbs v2 hcopy hS0 ht
      go_wp2_with fail
      refine ⟨⟨k + 1, by omega, ?_, HF.out.1, HF.out.2⟩, by simp [intOf]; omega⟩
      have := HT.out
      congr 1
      omega
    · obtain rfl : k = C := by omega
      rw [ht]
      have i1 : ¬ (t : Int) < (n : Int) := by omega
      have HR := Lib.hid (And.intro hown hbr)
      clear hown hbr ht
      go_wp2_with fail
      go_ret
      exact ⟨_, _, rfl, HR.out.1, HR.out.2⟩
theorem rframe_no {kind : Int} {A : Option Addr} {n c : Nat} (h : kind < 1 ∨ (1 ≤ kind ∧ 6 < kind) ∨ (1 ≤ kind ∧ kind ≤ 6 ∧ 1000 < n)) (w : World) : Calls Try.prog 15 #[.int .i64 kind, .slice A n c] w (FrmP w [] 1) := by
  rcases h with h | ⟨h, h2⟩ | ⟨h, h2, h3⟩
  all_goals
    go_enter Try.func15, Try.ntmps15
    go_wp2
    go_ret2
    exact FrmP.no (Below.refl _ _)
set_option maxHeartbeats 8000000 in
set_option maxRecDepth 100000 in
theorem rframe_yes {kind : Int} {A : Option Addr} {n c B : Nat} {body : List UInt8} (h1 : 1 ≤ kind) (h2 : kind ≤ 6) (h3 : n ≤ 1000) (hl : body.length = n) (w : World) (hs : Sl w B 1 A n (bvs body)) (hB : B ≤ w.heap.size) :
    Calls Try.prog 15 #[.int .i64 kind, .slice A n c] w (FrmP w (cutB (obAll kind body)) 0) := by
  have hoc := ob_cells h1 h2 h3
  have htx : bvs (obHead kind n) ++ bvs body = bvs (obText kind body) := by unfold obText; rw [hl, bvs_append]
  have htl := obText_len kind body
  have hhl : (obHead kind n).length = 3 := rfl
  rw [hl] at htl
  have hall : obText kind body ++ first4 (obText kind body) = obAll kind body := rfl
  have hal := obAll_len kind body
  rw [hl] at hal
  obtain ⟨hd, hhd⟩ : ∃ q, obHead kind n = q := ⟨_, rfl⟩
  rw [hhd] at hoc htx hhl
  obtain ⟨tx, htx'⟩ : ∃ q, obText kind body = q := ⟨_, rfl⟩
  rw [htx'] at htx htl hall
  obtain ⟨al, hal'⟩ : ∃ q, obAll kind body = q := ⟨_, rfl⟩
  rw [hal'] at hall hal ⊢
  clear hhd htx' hal'
  have HT := Lib.hid (And.intro htx (And.intro hall hal))
  clear htx hall hal
  go_enter Try.func15, Try.ntmps15
  go_upto_region 3 with (fail)
  have own0 := own_lit (W := w.alloc (.cells (bvs hd).toArray 5)) (base := w.heap.size) (n := 3) (cs := bvs hd) (t := 5) (Nat.le_refl _) (heap_alloc_new _ _) (by rw [bvs_len, hhl]) (by simp [maxLen])
  have hbA : Below w.heap.size w (w.alloc (.cells (bvs hd).toArray 5)) := (Below.refl _ _).alloc (Nat.le_refl _) _
  have hsA := hs.below (hbA.mono hB)
  rw [hoc] at own0 hbA hsA
  go_wp2_with (first
    | (at_builtin; go_loud (refine wpList_app _ rfl (.tmp 27) (.tmp 28) 22 rfl (base := w.heap.size) Try.underlying22 elemC rfl own0 rfl hsA (oneCell_bvs _) (by simp only [maxLen]; omega) (by omega) (by simp) ?_; intro A30 c30 w30 hown hg hb hat))
    | fail)
  rw [HT.out.1] at hown
  have hBX := hbA.trans (hb.mono (Nat.le_refl _))
  clear hoc own0 hbA hsA hg hb hat
  obtain ⟨m, hm⟩ : ∃ m, 3 + n = m := ⟨_, rfl⟩
  rw [hm] at hown htl
  rw [hm]
  have hck := rcheck_any (l := tx) (A := A30) (c := c30) (B := w30.heap.size) (by omega) w30 (Nat.le_refl _) (by rw [htl]; exact Sl.of_own hown)
  rw [htl] at hck
  have hF4 := first4_len tx
  obtain ⟨F, hFe⟩ : ∃ l, first4 tx = l := ⟨_, rfl⟩
  rw [hFe] at hck hF4
  have HF := Lib.hid (And.intro HT.out.2.1 HT.out.2.2)
  rw [hFe] at HF
  clear hFe HT
  refine Calls.mono hck ?_
  rintro e W4 ⟨A4, c4, rfl, hown4, hb4⟩
  have hx4 := Sl.of_own hown4
  replace hown := own_below hown hb4
  have hB5 := bNext hBX hb4
  have hwz := hB5.size
  clear hown4 hb4 hBX hck
  go_wp2_with (first
    | (at_builtin; go_loud (refine wpList_app _ rfl (.tmp 30) (.tmp 32) 22 rfl (base := w.heap.size) Try.underlying22 elemC rfl hown rfl hx4 (oneCell_bvs _) (by simp only [maxLen]; omega) (by omega) hwz ?_; intro A35 c35 w35 hown5 hg hb hat))
    | fail)
  rw [← bvs_append, HF.out.1] at hown5
  have hB35 := hB5.trans hb
  clear hown hx4 hg hat hb hB5
  obtain ⟨q, hq⟩ : ∃ q, m + 4 = q := ⟨_, rfl⟩
  have hq7 : q = n + 7 := by omega
  rw [hq] at hown5
  rw [hq]
  obtain ⟨A', c', e, hqc, hcm⟩ := own_form hown5
  simp only [Value.slice.injEq] at e
  obtain ⟨rfl, -, rfl⟩ := e
  have halq : al.length = q := by rw [HF.out.2, hq7]
  have hlen : cutN q = (cutB al).length := by rw [cutB_len, halq]
  have hco := rcut_any (l := al) (n := q) (c := c35) w35 (Sl.of_own hown5) halq (by omega) hqc hcm
  have HQ := Lib.hid (And.intro hlen hB35)
  clear hown5 HF hq7 hlen hB35 halq
  refine Calls.mono hco ?_
  rintro e W7 ⟨A7, c7, rfl, hown7, hb7⟩
  have hof := own_form hown7
  have H7 := Lib.hid (And.intro hown7 (And.intro (bNext HQ.out.2 hb7) hof))
  clear hown7 hof hb7 hco
  go_wp2_with fail
  go_ret2
  obtain ⟨hown7, hB7, A8, c8, e, h7, h8⟩ := H7.out
  simp only [Value.slice.injEq] at e
  obtain ⟨rfl, -, rfl⟩ := e
  exact ⟨_, _, _, rfl, HQ.out.1, h7, h8, Sl.of_own hown7, hB7⟩
theorem rframe_any {kind : Int} {A : Option Addr} {n c B : Nat} {body : List UInt8} (hl : body.length = n) (w : World) (hs : Sl w B 1 A n (bvs body)) (hB : B ≤ w.heap.size) :
    Calls Try.prog 15 #[.int .i64 kind, .slice A n c] w (FrmP w (frameB kind body) (frameE kind n)) := by
  by_cases h : 1 ≤ kind ∧ kind ≤ 6 ∧ n ≤ 1000
  · have ho : obOk kind n = true := obOk_iff.2 h
    have e1 : frameB kind body = cutB (obAll kind body) := by unfold frameB; rw [hl, ho, if_pos rfl]
    have e2 : frameE kind n = 0 := by unfold frameE; rw [ho]; rfl
    rw [e1, e2]
    exact rframe_yes h.1 h.2.1 h.2.2 hl w hs hB
  · have ho : obOk kind n = false := by unfold obOk; exact decide_eq_false h
    have e1 : frameB kind body = [] := by unfold frameB; rw [hl, ho]; rfl
    have e2 : frameE kind n = 1 := by unfold frameE; rw [ho]; rfl
    rw [e1, e2]
    exact rframe_no (by omega) w
end Go.Proofs.Ythmjkgpfnpdddaa
