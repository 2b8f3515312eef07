/- The walk over BreaksTell (s10/bktell.py writes it). -/
import Derived.Test.YtnojikbecohhfaaBkRTot
import Derived.Test.YtnojikbecohhfaaBkRBst
import Derived.Test.YtnojikbecohhfaaBkOver
import Derived.Test.YtnojikbecohhfaaBkArg
namespace Go.Proofs.Ytnojikbecohhfaa
set_option linter.unusedSimpArgs false
set_option linter.unusedVariables false
open Go.RowKit Go.ChangeShapes Go.WideShapes Go.Sort

attribute [-go_sem] Builtin.append_
theorem items0 (w : World) : (Instr.buildSlice 22 0 #[]).run Try.prog w = .ok (.slice (some ⟨w.heap.size, 0, none⟩) 0 0) (w.alloc (.cells #[] 53)) := by
  go_simp
attribute [-go_sem] Instr.buildSlice
theorem keepi_true {A A' : Option Addr} {n m c c' : Nat} {E : List Int} (w : World) (ha : IvAt w w.heap.size A n c E) (hb : IvAt w w.heap.size A' m c' E) (hn : n ≤ 1000000) : Calls Try.prog 17 #[.slice A n c, .slice A' m c'] w (Ret w (.bool true)) := by
  have := keepi_any w ha hb (Nat.le_refl _) (Nat.le_refl _) hn
  rw [decide_eq_true rfl] at this
  exact this
theorem best_len {l : List It} {wd tl : Int} : (bestP l wd tl).ends.length ≤ 1000 := by
  by_cases h : 600 < l.length ∨ bx l (-1) l.length = false
  · unfold bestP
    rw [if_pos h]
    simp [wy0]
  · have h1 : l.length ≤ 600 := by
      rcases Nat.lt_or_ge 600 l.length with h2 | h2
      · exact absurd (.inl h2) h
      · exact h2
    have h2 : bx l (-1) l.length = true := by
      cases hb : bx l (-1) l.length with
      | true => rfl
      | false => exact absurd (.inr hb) h
    obtain ⟨all, -, g3, -⟩ := best_path (wd := wd) (tl := tl) h1 h2
    have h3 := srch_len g3
    have h4 := brks_len l
    have h5 := brksTo_len l l.length
    omega
set_option maxHeartbeats 32000000 in
set_option maxRecDepth 100000 in
theorem breaksTell_core {A B : Option Addr} {n c m c' : Nat} {l : List It} {bs : List Int} (hm0 : n ≤ maxLen) (hmm : m ≤ maxLen) (sw sh st sc si : Int) {w : World} (h : Sl w w.heap.size 6 A n (encs l)) (hb : IvAt w w.heap.size B m c' bs) :
    Calls Try.prog 3 #[.slice A n c, .agg #[.int .i64 sw, .int .i64 sh, .int .i64 st, .int .i64 sc, .int .i64 si], .slice B m c'] w (Ret w (.bool true)) := by
  have hl := its_len h
  have hmi : (m : Int) ≤ 9223372036854775807 := by simp only [maxLen] at hmm; omega
  obtain ⟨V1, hV1⟩ : ∃ q, w.alloc (.cells #[.int .i64 sw, .int .i64 sh, .int .i64 st, .int .i64 sc, .int .i64 si] 24) = q := ⟨_, rfl⟩
  have y4 : V1.heap[w.heap.size]? = some (.cells #[.int .i64 sw, .int .i64 sh, .int .i64 st, .int .i64 sc, .int .i64 si] 24) := by rw [← hV1]; exact heap_alloc_new _ _
  have hb1 : Below w.heap.size w V1 := by rw [← hV1]; exact (Below.refl _ _).alloc (Nat.le_refl _) _
  have hsi : (Try.prog.info? 24).map (·.size) = some (#[.int .i64 sw, .int .i64 sh, .int .i64 st, .int .i64 sc, .int .i64 si] : Array Value).size := sty_size
  have hfr := fair_any (c := c) hm0 (h.next hb1)
  obtain ⟨b4, hb4⟩ : ∃ q, w.heap.size = q := ⟨_, rfl⟩
  rw [hb4] at y4
  have l4 := (Array.getElem?_eq_some_iff.1 y4).1
  have H1 := Lib.hid (And.intro hb1 (And.intro (h.next hb1) (And.intro y4 (And.intro hl (hb.nxt hb1)))))
  clear h hb hb1 y4 hl hmm hm0
  go_enter Try.func3, Try.ntmps3
  go_upto_region 1 with (fail)
  try rw [hV1]
  try rw [hb4]
  clear hV1 hb4
  go_wp2_with fail
  refine Calls.mono hfr ?_
  rintro e V1' ⟨⟨t, rfl, ht⟩, rfl⟩
  clear hfr
  cases t
  · clear ht
    go_wp2_with fail
    refine Calls.mono (wakes17_any _) ?_
    rintro e U ⟨rfl, hbU⟩
    have HBF := Lib.hid (bNext H1.out.1 hbU)
    clear hbU
    go_wp2_with fail
    go_returns
    exact Ret.mk rfl HBF.out
  · have hn7 := ht rfl
    clear ht
    by_cases h3 : 300 < m
    · have h3' : (300 : Int) < (m : Int) := by omega
      go_wp2_with fail
      refine Calls.mono (wakes17_any _) ?_
      rintro e U ⟨rfl, hbU⟩
      have HBF := Lib.hid (bNext H1.out.1 hbU)
      clear hbU
      go_wp2_with fail
      go_returns
      exact Ret.mk rfl HBF.out
    · have h3' : ¬ (300 : Int) < (m : Int) := by omega
      obtain ⟨hB1, hl1, y4, hl, hiv1⟩ := H1.out
      obtain ⟨V2, hV2⟩ : ∃ q, V1.alloc (.cells #[] 53) = q := ⟨_, rfl⟩
      have hb2 : Below V1.heap.size V1 V2 := by rw [← hV2]; exact (Below.refl _ _).alloc (Nat.le_refl _) _
      have own2 : V2.ownsRow V1.heap.size 53 6 (.slice (some ⟨V1.heap.size, 0, none⟩) 0 0) 0 [] := by rw [← hV2]; exact own_none' V1 V1.heap.size _ 6 (Nat.le_refl _)
      have hit0 := items0 V1
      rw [hV2] at hit0
      clear hV2
      go_upto_region 3 with (fail)
      refine wp_region_lit ?_
      refine wpList_slice rfl 22 0 #[] rfl (by simp only [List.map_toArray, List.map_nil]; exact hit0) ?_
      (try simp only [Act.put, List.setIfInBounds_toArray, List.set_cons_zero, List.set_cons_succ])
      iterate 3 (first | go_guarded | go_step)
      refine wpList_app _ rfl (.tmp 22) (.tmp 23) 22 rfl (base := V1.heap.size) Try.underlying22 elemItem rfl own2 rfl (hl1.next hb2) (oneCell_encs l) (by simp only [maxLen]; omega) (by omega) hb2.size ?_
      intro A7 c7 V3 hown7 hg7 hb7 hat7
      simp only [Nat.zero_add, List.nil_append] at hown7 ⊢
      (try simp only [Act.put, List.setIfInBounds_toArray, List.set_cons_zero, List.set_cons_succ])
      have hB13 := hb2.trans hb7
      clear hg7 hat7 hb7 own2 hit0 hb2
      have hown73 := hown7
      obtain ⟨V4, hV4⟩ : ∃ q, V3.alloc (.cells #[] 3) = q := ⟨_, rfl⟩
      have hb34 : Below V3.heap.size V3 V4 := by rw [← hV4]; exact (Below.refl _ _).alloc (Nat.le_refl _) _
      have own4 : V4.ownsRow V3.heap.size 3 1 (.slice (some ⟨V3.heap.size, 0, none⟩) 0 0) 0 [] := by rw [← hV4]; exact own_none' V3 V3.heap.size _ 1 (Nat.le_refl _)
      have hin0 : (Instr.buildSlice 25 0 #[]).run Try.prog V3 = .ok (.slice (some ⟨V3.heap.size, 0, none⟩) 0 0) (V3.alloc (.cells #[] 3)) := ints0 V3
      rw [hV4] at hin0
      clear hV4
      refine wpList_slice rfl 25 0 #[] rfl (by simp only [List.map_toArray, List.map_nil]; exact hin0) ?_
      (try simp only [Act.put, List.setIfInBounds_toArray, List.set_cons_zero, List.set_cons_succ])
      iterate 3 (first | go_guarded | go_step)
      refine wpList_app _ rfl (.tmp 25) (.tmp 26) 25 rfl (base := V3.heap.size) Try.underlying25 elemI rfl own4 rfl ((hiv1.nxt (bNext hB13 hb34)).sl) (one_ivs bs) (by simp only [maxLen]; omega) (by omega) hb34.size ?_
      intro A8 c8 V5 hown8 hg8 hb8 hat8
      simp only [Nat.zero_add, List.nil_append] at hown8 ⊢
      (try simp only [Act.put, List.setIfInBounds_toArray, List.set_cons_zero, List.set_cons_succ])
      have hB35 := hb34.trans hb8
      have hB15 : Below V1.heap.size V1 V5 := bNext hB13 hB35
      have hinI : Sl V5 V5.heap.size 6 A7 n (encs l) := (Sl.of_own hown7).next hB35
      have hivM : IvAt V5 V5.heap.size A8 m c8 bs := by
        obtain ⟨_, _, e', hcap, -⟩ := own_form hown8
        cases e'
        exact ⟨hiv1.wide, hiv1.len, Sl.of_own hown8, hcap⟩
      have hB5 := bNext hB1 hB15
      have hl5 := hl1.next hB15
      have hiv5 := hiv1.nxt hB15
      have y45 := bBlk hB15 l4 y4
      have l45 := (Array.getElem?_eq_some_iff.1 y45).1
      have H5 := Lib.hid (And.intro hB5 (And.intro hl5 (And.intro hiv5 (And.intro hinI (And.intro hivM (And.intro y45 hl))))))
      have htoA := fun (U : World) (hb : Below V5.heap.size V5 U) => total_any (c := c7) (c' := c8) sw sh st sc si (by omega) (by omega) U (hinI.next hb) (hivM.nxt hb)
      have hmaA := fun (U : World) (hb : Below V5.heap.size V5 U) => may_any (c := c7) (c' := c8) sw sh st sc si (by omega) (by omega) U (hinI.next hb) (hivM.nxt hb)
      have hrtA := fun (U : World) (hb : Below V5.heap.size V5 U) => rtotal_any (c := c) (c' := c') sw sh st sc si (by omega) (by omega) U (hl5.next hb) (hiv5.nxt hb)
      have hbeA := fun (U : World) (hb : Below V5.heap.size V5 U) => best_any (c := c7) sw sh st sc si (by omega) U (hinI.next hb)
      have hrbA := fun (U : World) (hb : Below V5.heap.size V5 U) => rBest_any (c := c) sw sh st sc si (by omega) U (hl5.next hb)
      have hblen := best_len (l := l) (wd := cutS sw) (tl := cutS st)
      obtain ⟨BP, hBP⟩ : ∃ q, bestP l (cutS sw) (cutS st) = q := ⟨_, rfl⟩
      obtain ⟨O, hO⟩ : ∃ q, walkP l (cutS sw) (cutS st) bs = q := ⟨_, rfl⟩
      simp only [hBP] at hbeA hrbA hblen
      simp only [hO] at htoA hmaA hrtA
      unfold BestP at hbeA
      have HC := Lib.hid (And.intro htoA (And.intro hmaA (And.intro hrtA (And.intro hbeA hrbA))))
      have hto := htoA V5 (Below.refl _ _)
      clear hB1 hl1 y4 hl hiv1 hB13 hown7 hown73 hb34 own4 hin0 hown8 hg8 hb8 hat8 hB35 hB15 hinI hivM hB5 hl5 hiv5 htoA hmaA hrtA hbeA hrbA hBP hO H1
      go_upto_region 4 with (fail)
      refine wp_region_lit ?_
      iterate 3 (first | go_guarded | go_step)
      (try simp only [Act.put, List.setIfInBounds_toArray, List.set_cons_zero, List.set_cons_succ])
      refine wpList_load_row rfl 24 (.tmp 4) rfl _ rfl _ #[.int .i64 sw, .int .i64 sh, .int .i64 st, .int .i64 sc, .int .i64 si] (0, 0) _ y45 Try.underlying24 rfl hsi ?_
      (try simp only [Act.put, List.setIfInBounds_toArray, List.set_cons_zero, List.set_cons_succ])
      clear y45
      go_wp2_with fail
      unfold totT at hto
      obtain ⟨tt, htt⟩ : ∃ q, (wkY O).total = q := ⟨_, rfl⟩
      obtain ⟨tov, hov⟩ : ∃ q, (wkY O).over = q := ⟨_, rfl⟩
      obtain ⟨te, hte⟩ : ∃ q : Int, (if O.isSome then 0 else 1) = q := ⟨_, rfl⟩
      rw [htt, hov, hte] at hto
      have HTT := Lib.hid (And.intro htt (And.intro hov hte))
      clear htt hov hte
      refine Calls.mono hto ?_
      rintro e V6 ⟨rfl, hb6⟩
      clear hto
      have y46 := bBlk hb6 l45 H5.out.2.2.2.2.2.1
      have l46 := (Array.getElem?_eq_some_iff.1 y46).1
      have hrt := HC.out.2.2.1 V6 hb6
      have H6 := Lib.hid (And.intro hb6 y46)
      clear hb6
      go_upto_region 5 with (fail)
      refine wp_region_lit ?_
      iterate 3 (first | go_guarded | go_step)
      (try simp only [Act.put, List.setIfInBounds_toArray, List.set_cons_zero, List.set_cons_succ])
      refine wpList_load_row rfl 24 (.tmp 4) rfl _ rfl _ #[.int .i64 sw, .int .i64 sh, .int .i64 st, .int .i64 sc, .int .i64 si] (0, 0) _ y46 Try.underlying24 rfl hsi ?_
      (try simp only [Act.put, List.setIfInBounds_toArray, List.set_cons_zero, List.set_cons_succ])
      clear y46
      go_wp2_with fail
      refine Calls.mono hrt ?_
      rintro e V7 ⟨rfl, hb7⟩
      clear hrt
      obtain ⟨qv, hqv⟩ : ∃ q, suV O = q := ⟨_, rfl⟩
      rw [hqv]
      have hqi : (Try.prog.info? 32).map (·.size) = some qv.size := by rw [← hqv]; cases O <;> exact su_info _ _ _ _
      have hqz : suz.size = qv.size := by rw [← hqv]; cases O <;> rfl
      have hqo : qv.all (·.oneCell') = true := by rw [← hqv]; cases O <;> exact su_one _ _ _ _
      have hsuz := suZ
      obtain ⟨Y, hY, y12, bY⟩ := newRow V7 suz qv 32
      simp only
      iterate 1 (first | go_guarded | go_step | skip)
      refine wpList_new rfl hsuz rfl ?_
      (try simp only [Act.put, List.setIfInBounds_toArray, List.set_cons_zero, List.set_cons_succ])
      refine wpList_store_row rfl 32 (.tmp 12) (.tmp 39) rfl _ qv rfl rfl _ suz (heap_alloc_new _ _) hqi hqz hqo ?_
      (try simp only [Act.put, List.setIfInBounds_toArray, List.set_cons_zero, List.set_cons_succ])
      rw [hY]
      have hbY : Below V5.heap.size V5 Y := bNext H6.out.1 (bNext hb7 bY)
      have y4Y := bBlk (bNext hb7 bY) l46 H6.out.2
      obtain ⟨gq, hgq⟩ : ∃ q, V7.heap.size = q := ⟨_, rfl⟩
      rw [hgq] at y12
      try rw [hgq]
      have l4Y := (Array.getElem?_eq_some_iff.1 y4Y).1
      have l12 := (Array.getElem?_eq_some_iff.1 y12).1
      have hr4 : Y.rangeAt b4 0 [.int .i64 sw, .int .i64 sh, .int .i64 st, .int .i64 sc, .int .i64 si] := range_blk y4Y
      have hst5 : (Try.prog.info? 24).map (·.size) = some ([.int .i64 sw, .int .i64 sh, .int .i64 st, .int .i64 sc, .int .i64 si] : List Value).length := by show _ = some 5; kernel_rfl
      have hmaY := fun U (hb : Below Y.heap.size Y U) => HC.out.2.1 U (bNext hbY hb)
      have HY := Lib.hid (And.intro hbY y4Y)
      clear hbY y4Y hY hb7 bY hgq hsuz hqi hqz hqo
      go_upto_region 6 with (fail)
      go_cut [87] from 40 to 87 (fun s87 wx => s87 = .bool false ∧ Below Y.heap.size Y wx)
      case first =>
        let S : World → Prop := fun w' => Below Y.heap.size Y w'
        have hS0 : S Y.drew := (Below.refl _ _).drew
        have r4 : ∀ w', S w' → w'.rangeAt b4 0 [.int .i64 sw, .int .i64 sh, .int .i64 st, .int .i64 sc, .int .i64 si] := fun w' h => bRange h l4Y hr4
        cases O with
        | none =>
          rw [← hqv] at y12
          have q2 : ∀ w', S w' → w'.cell? ⟨gq, 2, none⟩ = some (.bool false) := fun w' h => (Below.cell h (p := ⟨gq, 2, none⟩) l12).trans (blk_cell y12 rfl)
          simp only [wkM, Option.getD_none] at hmaY
          obtain ⟨htt, hov, hte⟩ := HTT.out
          simp only [wkY, Option.getD_none, wy0, Option.isSome_none] at htt hov hte
          have hte' : (1 : Int) = te := by simpa using hte
          subst htt hov hte'
          clear hte HTT
          clear y12 hr4
          refine wp_region_held (S := S) (by kernel_rfl) ?_
          change wpAnyH _ _ _ _ S _ _ _ Y.drew
          change At 0 _
          iterate 37 (first | (apply tkA; (case hi => (simp only [List.getElem?_toArray, List.getElem?_cons_zero, List.getElem?_cons_succ]; rfl)); (case hw => rfl); (case hy => (intro w' hSw; have k2 := q2 w' hSw; (try simp only [S] at hSw); go_simp; (try with_reducible rfl))); (case hs => kernel_rfl); (case hf => kernel_rfl); (case hr => kernel_rfl); (case hQ => exact fun _ _ _ h => h); (case hS => assumption); (try simp only [Act.put, List.setIfInBounds_toArray, List.set_cons_zero, List.set_cons_succ, Nat.reduceAdd])) | (apply skA; (case hi => (simp only [List.getElem?_toArray, List.getElem?_cons_zero, List.getElem?_cons_succ]; rfl)); (case hw => rfl); (case hs => kernel_rfl); (case hf => kernel_rfl); (case hr => kernel_rfl); (case hQ => exact fun _ _ _ h => h); (case hS => assumption); (try simp only [Act.put, List.setIfInBounds_toArray, List.set_cons_zero, List.set_cons_succ, Nat.reduceAdd])))
          change wpAnyH _ _ _ _ _ _ _ _ _
          refine wpAnyH_take (i := 37) (oi := ?oi_1) (v := ?v_1) ?ho_1 ?h1_1 ?h2_1 ?h3_1 ?hq_1 (Or.inl ⟨?hw_1, ?hy_1⟩) ?hs_1 ?rest_1; (case h2_1 => kernel_rfl); (case h3_1 => kernel_rfl); (case ho_1 => (simp only [List.getElem?_toArray, List.getElem?_cons_zero, List.getElem?_cons_succ]; rfl)); (case h1_1 => kernel_rfl); (case hq_1 => exact fun _ _ _ h => h); (case hw_1 => rfl); (case hy_1 => (intro w' hSw; refine exec_load_row (x := .tmp 4) ?_ ?_ (r4 w' hSw) Try.underlying24 ?_ hst5 <;> rfl)); (case hs_1 => assumption); (try simp only [Act.put, List.setIfInBounds_toArray, List.set_cons_zero, List.set_cons_succ])
          change At 38 _
          iterate 1 (first | (apply tkA; (case hi => (simp only [List.getElem?_toArray, List.getElem?_cons_zero, List.getElem?_cons_succ]; rfl)); (case hw => rfl); (case hy => (intro w' hSw; (try simp only [S] at hSw); go_simp; (try with_reducible rfl))); (case hs => kernel_rfl); (case hf => kernel_rfl); (case hr => kernel_rfl); (case hQ => exact fun _ _ _ h => h); (case hS => assumption); (try simp only [Act.put, List.setIfInBounds_toArray, List.set_cons_zero, List.set_cons_succ, Nat.reduceAdd])) | (apply skA; (case hi => (simp only [List.getElem?_toArray, List.getElem?_cons_zero, List.getElem?_cons_succ]; rfl)); (case hw => rfl); (case hs => kernel_rfl); (case hf => kernel_rfl); (case hr => kernel_rfl); (case hQ => exact fun _ _ _ h => h); (case hS => assumption); (try simp only [Act.put, List.setIfInBounds_toArray, List.set_cons_zero, List.set_cons_succ, Nat.reduceAdd])))
          change wpAnyH _ _ _ _ _ _ _ _ _
          change At 40 _
          iterate 2 (first | (apply tkA; (case hi => (simp only [List.getElem?_toArray, List.getElem?_cons_zero, List.getElem?_cons_succ]; rfl)); (case hw => rfl); (case hy => (intro w' hSw; have k2 := q2 w' hSw; (try simp only [S] at hSw); go_simp; (try with_reducible rfl))); (case hs => kernel_rfl); (case hf => kernel_rfl); (case hr => kernel_rfl); (case hQ => exact fun _ _ _ h => h); (case hS => assumption); (try simp only [Act.put, List.setIfInBounds_toArray, List.set_cons_zero, List.set_cons_succ, Nat.reduceAdd])) | (apply skA; (case hi => (simp only [List.getElem?_toArray, List.getElem?_cons_zero, List.getElem?_cons_succ]; rfl)); (case hw => rfl); (case hs => kernel_rfl); (case hf => kernel_rfl); (case hr => kernel_rfl); (case hQ => exact fun _ _ _ h => h); (case hS => assumption); (try simp only [Act.put, List.setIfInBounds_toArray, List.set_cons_zero, List.set_cons_succ, Nat.reduceAdd])))
          change wpAnyH _ _ _ _ _ _ _ _ _
          refine wpAnyH_ready (rs := [39]) (by kernel_rfl) (by simp) (AllReadyH.cons (o := ?oo39_5) ?hoo39_5 (fun K hK => ?steponly5) AllReadyH.nil); (case hoo39_5 => (simp only [List.getElem?_toArray, List.getElem?_cons_zero, List.getElem?_cons_succ]; rfl))
          go_simp
          refine Calls.mono (hmaY _ hS0) ?_
          rintro e U1 ⟨rfl, hu1⟩
          have hS1 : S U1 := (show Below Y.heap.size Y Y.drew from hS0).trans hu1
          refine hK.out _ _ hS1 (fun _ => ?_)
          clear hK K
          (try simp only [Act.put, List.setIfInBounds_toArray, List.set_cons_zero, List.set_cons_succ])
          change At 42 _
          iterate 6 (first | (apply tkA; (case hi => (simp only [List.getElem?_toArray, List.getElem?_cons_zero, List.getElem?_cons_succ]; rfl)); (case hw => rfl); (case hy => (intro w' hSw; have k2 := q2 w' hSw; (try simp only [S] at hSw); go_simp; (try with_reducible rfl))); (case hs => kernel_rfl); (case hf => kernel_rfl); (case hr => kernel_rfl); (case hQ => exact fun _ _ _ h => h); (case hS => assumption); (try simp only [Act.put, List.setIfInBounds_toArray, List.set_cons_zero, List.set_cons_succ, Nat.reduceAdd])) | (apply skA; (case hi => (simp only [List.getElem?_toArray, List.getElem?_cons_zero, List.getElem?_cons_succ]; rfl)); (case hw => rfl); (case hs => kernel_rfl); (case hf => kernel_rfl); (case hr => kernel_rfl); (case hQ => exact fun _ _ _ h => h); (case hS => assumption); (try simp only [Act.put, List.setIfInBounds_toArray, List.set_cons_zero, List.set_cons_succ, Nat.reduceAdd])))
          change wpAnyH _ _ _ _ _ _ _ _ _
          refine wpAnyH_done (by kernel_rfl) ?_ _
          have HE := Lib.hid (show Below Y.heap.size Y _ from hS1)
          clear hS0 hS1 r4 q2 hmaY hu1
          go_wp2_with fail
          go_meet
          exact ⟨rfl, HE.out⟩
        | some p =>
          obtain ⟨yy, mb⟩ := p
          rw [← hqv] at y12
          obtain ⟨yt, hyt⟩ : ∃ q, yy.total = q := ⟨_, rfl⟩
          obtain ⟨yo, hyo⟩ : ∃ q, yy.over = q := ⟨_, rfl⟩
          have q0 : ∀ w', S w' → w'.cell? ⟨gq, 0, none⟩ = some (.int .i64 yt) := fun w' h => (Below.cell h (p := ⟨gq, 0, none⟩) l12).trans (by rw [← hyt]; exact blk_cell y12 rfl)
          have q1 : ∀ w', S w' → w'.cell? ⟨gq, 1, none⟩ = some (.int .i64 yo) := fun w' h => (Below.cell h (p := ⟨gq, 1, none⟩) l12).trans (by rw [← hyo]; exact blk_cell y12 rfl)
          have q2 : ∀ w', S w' → w'.cell? ⟨gq, 2, none⟩ = some (.bool true) := fun w' h => (Below.cell h (p := ⟨gq, 2, none⟩) l12).trans (blk_cell y12 rfl)
          have q3 : ∀ w', S w' → w'.cell? ⟨gq, 3, none⟩ = some (.bool mb) := fun w' h => (Below.cell h (p := ⟨gq, 3, none⟩) l12).trans (blk_cell y12 rfl)
          simp only [wkM, Option.getD_some] at hmaY
          obtain ⟨htt, hov, hte⟩ := HTT.out
          simp only [wkY, Option.getD_some, Option.isSome_some, if_true, hyt, hyo] at htt hov hte
          subst htt hov hte
          clear y12 hr4 hyt hyo hqv HTT
          refine wp_region_held (S := S) (by kernel_rfl) ?_
          change wpAnyH _ _ _ _ S _ _ _ Y.drew
          change At 0 _
          iterate 37 (first | (apply tkA; (case hi => (simp only [List.getElem?_toArray, List.getElem?_cons_zero, List.getElem?_cons_succ]; rfl)); (case hw => rfl); (case hy => (intro w' hSw; have k2 := q2 w' hSw; have k0 := q0 w' hSw; have k1 := q1 w' hSw; (try simp only [S] at hSw); go_simp; (try with_reducible rfl))); (case hs => kernel_rfl); (case hf => kernel_rfl); (case hr => kernel_rfl); (case hQ => exact fun _ _ _ h => h); (case hS => assumption); (try simp only [Act.put, List.setIfInBounds_toArray, List.set_cons_zero, List.set_cons_succ, Nat.reduceAdd])) | (apply skA; (case hi => (simp only [List.getElem?_toArray, List.getElem?_cons_zero, List.getElem?_cons_succ]; rfl)); (case hw => rfl); (case hs => kernel_rfl); (case hf => kernel_rfl); (case hr => kernel_rfl); (case hQ => exact fun _ _ _ h => h); (case hS => assumption); (try simp only [Act.put, List.setIfInBounds_toArray, List.set_cons_zero, List.set_cons_succ, Nat.reduceAdd])))
          change wpAnyH _ _ _ _ _ _ _ _ _
          refine wpAnyH_take (i := 37) (oi := ?oi_2) (v := ?v_2) ?ho_2 ?h1_2 ?h2_2 ?h3_2 ?hq_2 (Or.inl ⟨?hw_2, ?hy_2⟩) ?hs_2 ?rest_2; (case h2_2 => kernel_rfl); (case h3_2 => kernel_rfl); (case ho_2 => (simp only [List.getElem?_toArray, List.getElem?_cons_zero, List.getElem?_cons_succ]; rfl)); (case h1_2 => kernel_rfl); (case hq_2 => exact fun _ _ _ h => h); (case hw_2 => rfl); (case hy_2 => (intro w' hSw; refine exec_load_row (x := .tmp 4) ?_ ?_ (r4 w' hSw) Try.underlying24 ?_ hst5 <;> rfl)); (case hs_2 => assumption); (try simp only [Act.put, List.setIfInBounds_toArray, List.set_cons_zero, List.set_cons_succ])
          change At 38 _
          iterate 1 (first | (apply tkA; (case hi => (simp only [List.getElem?_toArray, List.getElem?_cons_zero, List.getElem?_cons_succ]; rfl)); (case hw => rfl); (case hy => (intro w' hSw; (try simp only [S] at hSw); go_simp; (try with_reducible rfl))); (case hs => kernel_rfl); (case hf => kernel_rfl); (case hr => kernel_rfl); (case hQ => exact fun _ _ _ h => h); (case hS => assumption); (try simp only [Act.put, List.setIfInBounds_toArray, List.set_cons_zero, List.set_cons_succ, Nat.reduceAdd])) | (apply skA; (case hi => (simp only [List.getElem?_toArray, List.getElem?_cons_zero, List.getElem?_cons_succ]; rfl)); (case hw => rfl); (case hs => kernel_rfl); (case hf => kernel_rfl); (case hr => kernel_rfl); (case hQ => exact fun _ _ _ h => h); (case hS => assumption); (try simp only [Act.put, List.setIfInBounds_toArray, List.set_cons_zero, List.set_cons_succ, Nat.reduceAdd])))
          change wpAnyH _ _ _ _ _ _ _ _ _
          change At 40 _
          iterate 2 (first | (apply tkA; (case hi => (simp only [List.getElem?_toArray, List.getElem?_cons_zero, List.getElem?_cons_succ]; rfl)); (case hw => rfl); (case hy => (intro w' hSw; have k2 := q2 w' hSw; (try simp only [S] at hSw); go_simp; (try with_reducible rfl))); (case hs => kernel_rfl); (case hf => kernel_rfl); (case hr => kernel_rfl); (case hQ => exact fun _ _ _ h => h); (case hS => assumption); (try simp only [Act.put, List.setIfInBounds_toArray, List.set_cons_zero, List.set_cons_succ, Nat.reduceAdd])) | (apply skA; (case hi => (simp only [List.getElem?_toArray, List.getElem?_cons_zero, List.getElem?_cons_succ]; rfl)); (case hw => rfl); (case hs => kernel_rfl); (case hf => kernel_rfl); (case hr => kernel_rfl); (case hQ => exact fun _ _ _ h => h); (case hS => assumption); (try simp only [Act.put, List.setIfInBounds_toArray, List.set_cons_zero, List.set_cons_succ, Nat.reduceAdd])))
          change wpAnyH _ _ _ _ _ _ _ _ _
          refine wpAnyH_ready (rs := [39]) (by kernel_rfl) (by simp) (AllReadyH.cons (o := ?oo39_6) ?hoo39_6 (fun K hK => ?steponly6) AllReadyH.nil); (case hoo39_6 => (simp only [List.getElem?_toArray, List.getElem?_cons_zero, List.getElem?_cons_succ]; rfl))
          go_simp
          refine Calls.mono (hmaY _ hS0) ?_
          rintro e U1 ⟨rfl, hu1⟩
          have hS1 : S U1 := (show Below Y.heap.size Y Y.drew from hS0).trans hu1
          refine hK.out _ _ hS1 (fun _ => ?_)
          clear hK K
          (try simp only [Act.put, List.setIfInBounds_toArray, List.set_cons_zero, List.set_cons_succ])
          change At 42 _
          iterate 6 (first | (apply tkA; (case hi => (simp only [List.getElem?_toArray, List.getElem?_cons_zero, List.getElem?_cons_succ]; rfl)); (case hw => rfl); (case hy => (intro w' hSw; have k2 := q2 w' hSw; have k3 := q3 w' hSw; (try simp only [S] at hSw); go_simp; (try with_reducible rfl))); (case hs => kernel_rfl); (case hf => kernel_rfl); (case hr => kernel_rfl); (case hQ => exact fun _ _ _ h => h); (case hS => assumption); (try simp only [Act.put, List.setIfInBounds_toArray, List.set_cons_zero, List.set_cons_succ, Nat.reduceAdd])) | (apply skA; (case hi => (simp only [List.getElem?_toArray, List.getElem?_cons_zero, List.getElem?_cons_succ]; rfl)); (case hw => rfl); (case hs => kernel_rfl); (case hf => kernel_rfl); (case hr => kernel_rfl); (case hQ => exact fun _ _ _ h => h); (case hS => assumption); (try simp only [Act.put, List.setIfInBounds_toArray, List.set_cons_zero, List.set_cons_succ, Nat.reduceAdd])))
          change wpAnyH _ _ _ _ _ _ _ _ _
          refine wpAnyH_done (by kernel_rfl) ?_ _
          have HE := Lib.hid (show Below Y.heap.size Y _ from hS1)
          clear hS0 hS1 r4 q0 q1 q2 q3 hmaY hu1
          go_wp2_with fail
          go_meet
          exact ⟨by simp, HE.out⟩
      case rest =>
      obtain ⟨rfl, hbx⟩ := hcut
      rename World => Z
      have hbZ : Below V5.heap.size V5 Z := bNext HY.out.1 hbx
      have z4 := bBlk hbx l4Y HY.out.2
      have l4Z := (Array.getElem?_eq_some_iff.1 z4).1
      have hr4Z : Z.rangeAt b4 0 [.int .i64 sw, .int .i64 sh, .int .i64 st, .int .i64 sc, .int .i64 si] := range_blk z4
      have HZ := Lib.hid hbZ
      clear hbZ hbx z4 hr4 hmaY y12 l12 hqv
      go_upto_region 8 with (fail)
      let S : World → Prop := fun w' => Below Z.heap.size Z w'
      have hS0 : S Z.drew := (Below.refl _ _).drew
      have r4 : ∀ w', S w' → w'.rangeAt b4 0 [.int .i64 sw, .int .i64 sh, .int .i64 st, .int .i64 sc, .int .i64 si] := fun w' h => bRange h l4Z hr4Z
      clear hr4Z
      refine wp_region_held (S := S) (by kernel_rfl) ?_
      change wpAnyH _ _ _ _ S _ _ _ Z.drew
      obtain ⟨Z0, hZ0⟩ : ∃ q, Z.drew = q := ⟨_, rfl⟩
      rw [hZ0] at hS0 ⊢
      clear hZ0
      change At 0 _
      iterate 1 (first | (apply tkA; (case hi => (simp only [List.getElem?_toArray, List.getElem?_cons_zero, List.getElem?_cons_succ]; rfl)); (case hw => rfl); (case hy => (intro w' hSw; (try simp only [S] at hSw); go_simp; (try with_reducible rfl))); (case hs => kernel_rfl); (case hf => kernel_rfl); (case hr => kernel_rfl); (case hQ => exact fun _ _ _ h => h); (case hS => assumption); (try simp only [Act.put, List.setIfInBounds_toArray, List.set_cons_zero, List.set_cons_succ, Nat.reduceAdd])) | (apply skA; (case hi => (simp only [List.getElem?_toArray, List.getElem?_cons_zero, List.getElem?_cons_succ]; rfl)); (case hw => rfl); (case hs => kernel_rfl); (case hf => kernel_rfl); (case hr => kernel_rfl); (case hQ => exact fun _ _ _ h => h); (case hS => assumption); (try simp only [Act.put, List.setIfInBounds_toArray, List.set_cons_zero, List.set_cons_succ, Nat.reduceAdd])))
      change wpAnyH _ _ _ _ _ _ _ _ _
      refine wpAnyH_take (i := 1) (oi := ?oi_3) (v := ?v_3) ?ho_3 ?h1_3 ?h2_3 ?h3_3 ?hq_3 (Or.inl ⟨?hw_3, ?hy_3⟩) ?hs_3 ?rest_3; (case h2_3 => kernel_rfl); (case h3_3 => kernel_rfl); (case ho_3 => (simp only [List.getElem?_toArray, List.getElem?_cons_zero, List.getElem?_cons_succ]; rfl)); (case h1_3 => kernel_rfl); (case hq_3 => exact fun _ _ _ h => h); (case hw_3 => rfl); (case hy_3 => (intro w' hSw; refine exec_load_row (x := .tmp 4) ?_ ?_ (r4 w' hSw) Try.underlying24 ?_ hst5 <;> rfl)); (case hs_3 => assumption); (try simp only [Act.put, List.setIfInBounds_toArray, List.set_cons_zero, List.set_cons_succ])
      change At 3 _
      iterate 1 (first | (apply tkA; (case hi => (simp only [List.getElem?_toArray, List.getElem?_cons_zero, List.getElem?_cons_succ]; rfl)); (case hw => rfl); (case hy => (intro w' hSw; (try simp only [S] at hSw); go_simp; (try with_reducible rfl))); (case hs => kernel_rfl); (case hf => kernel_rfl); (case hr => kernel_rfl); (case hQ => exact fun _ _ _ h => h); (case hS => assumption); (try simp only [Act.put, List.setIfInBounds_toArray, List.set_cons_zero, List.set_cons_succ, Nat.reduceAdd])) | (apply skA; (case hi => (simp only [List.getElem?_toArray, List.getElem?_cons_zero, List.getElem?_cons_succ]; rfl)); (case hw => rfl); (case hs => kernel_rfl); (case hf => kernel_rfl); (case hr => kernel_rfl); (case hQ => exact fun _ _ _ h => h); (case hS => assumption); (try simp only [Act.put, List.setIfInBounds_toArray, List.set_cons_zero, List.set_cons_succ, Nat.reduceAdd])))
      change wpAnyH _ _ _ _ _ _ _ _ _
      refine wpAnyH_take (i := 4) (oi := ?oi_4) (v := ?v_4) ?ho_4 ?h1_4 ?h2_4 ?h3_4 ?hq_4 (Or.inl ⟨?hw_4, ?hy_4⟩) ?hs_4 ?rest_4; (case h2_4 => kernel_rfl); (case h3_4 => kernel_rfl); (case ho_4 => (simp only [List.getElem?_toArray, List.getElem?_cons_zero, List.getElem?_cons_succ]; rfl)); (case h1_4 => kernel_rfl); (case hq_4 => exact fun _ _ _ h => h); (case hw_4 => rfl); (case hy_4 => (intro w' hSw; refine exec_load_row (x := .tmp 4) ?_ ?_ (r4 w' hSw) Try.underlying24 ?_ hst5 <;> rfl)); (case hs_4 => assumption); (try simp only [Act.put, List.setIfInBounds_toArray, List.set_cons_zero, List.set_cons_succ])
      refine wpAnyH_ready (rs := [2]) (by kernel_rfl) (by simp) (AllReadyH.cons (o := ?oo2_7) ?hoo2_7 (fun K hK => ?steponly7) AllReadyH.nil); (case hoo2_7 => (simp only [List.getElem?_toArray, List.getElem?_cons_zero, List.getElem?_cons_succ]; rfl))
      go_simp
      refine Calls.mono (HC.out.2.2.2.1 Z0 (bNext HZ.out hS0)) ?_
      rintro e U1 ⟨Aw, mw, cw, rfl, hivw, -, hu1⟩
      have hS1 : S U1 := (show Below Z.heap.size Z Z0 from hS0).trans (hu1.mono (show Below Z.heap.size Z Z0 from hS0).size)
      refine hK.out _ _ hS1 (fun _ => ?_)
      clear hK K
      (try simp only [Act.put, List.setIfInBounds_toArray, List.set_cons_zero, List.set_cons_succ])
      refine wpAnyH_ready (rs := [5]) (by kernel_rfl) (by simp) (AllReadyH.cons (o := ?oo5_8) ?hoo5_8 (fun K hK => ?steponly8) AllReadyH.nil); (case hoo5_8 => (simp only [List.getElem?_toArray, List.getElem?_cons_zero, List.getElem?_cons_succ]; rfl))
      go_simp
      refine Calls.mono (HC.out.2.2.2.2 U1 (bNext HZ.out hS1)) ?_
      rintro e U2 ⟨Ax, mx, cx, rfl, hivx, hu2⟩
      have hS2 : S U2 := (show Below Z.heap.size Z U1 from hS1).trans (hu2.mono (show Below Z.heap.size Z U1 from hS1).size)
      refine hK.out _ _ hS2 (fun _ => ?_)
      clear hK K
      (try simp only [Act.put, List.setIfInBounds_toArray, List.set_cons_zero, List.set_cons_succ])
      have hivw2 := hivw.nxt hu2
      have hmw : mw ≤ 1000000 := by have := hivw.len; omega
      refine wpAnyH_ready (rs := [6]) (by kernel_rfl) (by simp) (AllReadyH.cons (o := ?oo6_9) ?hoo6_9 (fun K hK => ?steponly9) AllReadyH.nil); (case hoo6_9 => (simp only [List.getElem?_toArray, List.getElem?_cons_zero, List.getElem?_cons_succ]; rfl))
      go_simp
      refine Calls.mono (way_same U2 hivw2 hivx hmw (fun W h1 h2 => keepi_true W h1 h2 hmw)) ?_
      rintro e U3 ⟨rfl, hu3⟩
      have hS3 : S U3 := (show Below Z.heap.size Z U2 from hS2).trans (hu3.mono (show Below Z.heap.size Z U2 from hS2).size)
      refine hK.out _ _ hS3 (fun _ => ?_)
      clear hK K hivw hivw2 hivx hu1 hu2 hu3
      (try simp only [Act.put, List.setIfInBounds_toArray, List.set_cons_zero, List.set_cons_succ])
      change At 7 _
      iterate 3 (first | (apply tkA; (case hi => (simp only [List.getElem?_toArray, List.getElem?_cons_zero, List.getElem?_cons_succ]; rfl)); (case hw => rfl); (case hy => (intro w' hSw; (try simp only [S] at hSw); go_simp; (try with_reducible rfl))); (case hs => kernel_rfl); (case hf => kernel_rfl); (case hr => kernel_rfl); (case hQ => exact fun _ _ _ h => h); (case hS => assumption); (try simp only [Act.put, List.setIfInBounds_toArray, List.set_cons_zero, List.set_cons_succ, Nat.reduceAdd])) | (apply skA; (case hi => (simp only [List.getElem?_toArray, List.getElem?_cons_zero, List.getElem?_cons_succ]; rfl)); (case hw => rfl); (case hs => kernel_rfl); (case hf => kernel_rfl); (case hr => kernel_rfl); (case hQ => exact fun _ _ _ h => h); (case hS => assumption); (try simp only [Act.put, List.setIfInBounds_toArray, List.set_cons_zero, List.set_cons_succ, Nat.reduceAdd])))
      change wpAnyH _ _ _ _ _ _ _ _ _
      have h53 : Below V5.heap.size V5 U3 := bNext HZ.out hS3
      refine wpAnyH_ready (rs := [10]) (by kernel_rfl) (by simp) (AllReadyH.cons (o := ?oo10_10) ?hoo10_10 (fun K hK => ?steponly10) AllReadyH.nil); (case hoo10_10 => (simp only [List.getElem?_toArray, List.getElem?_cons_zero, List.getElem?_cons_succ]; rfl))
      go_simp
      refine Calls.mono (items_same (xs := l) (by simp only [maxLen]; omega) (H5.out.2.2.2.1.next h53) (H5.out.2.1.next h53)) ?_
      rintro e U4 ⟨rfl, hu4⟩
      have hS4 : S U4 := (show Below Z.heap.size Z U3 from hS3).trans (hu4.mono (show Below Z.heap.size Z U3 from hS3).size)
      refine hK.out _ _ hS4 (fun _ => ?_)
      clear hK K
      (try simp only [Act.put, List.setIfInBounds_toArray, List.set_cons_zero, List.set_cons_succ])
      change At 11 _
      iterate 4 (first | (apply tkA; (case hi => (simp only [List.getElem?_toArray, List.getElem?_cons_zero, List.getElem?_cons_succ]; rfl)); (case hw => rfl); (case hy => (intro w' hSw; (try simp only [S] at hSw); go_simp; (try with_reducible rfl))); (case hs => kernel_rfl); (case hf => kernel_rfl); (case hr => kernel_rfl); (case hQ => exact fun _ _ _ h => h); (case hS => assumption); (try simp only [Act.put, List.setIfInBounds_toArray, List.set_cons_zero, List.set_cons_succ, Nat.reduceAdd])) | (apply skA; (case hi => (simp only [List.getElem?_toArray, List.getElem?_cons_zero, List.getElem?_cons_succ]; rfl)); (case hw => rfl); (case hs => kernel_rfl); (case hf => kernel_rfl); (case hr => kernel_rfl); (case hQ => exact fun _ _ _ h => h); (case hS => assumption); (try simp only [Act.put, List.setIfInBounds_toArray, List.set_cons_zero, List.set_cons_succ, Nat.reduceAdd])))
      change wpAnyH _ _ _ _ _ _ _ _ _
      have h54 : Below V5.heap.size V5 U4 := bNext HZ.out hS4
      refine wpAnyH_ready (rs := [15]) (by kernel_rfl) (by simp) (AllReadyH.cons (o := ?oo15_11) ?hoo15_11 (fun K hK => ?steponly11) AllReadyH.nil); (case hoo15_11 => (simp only [List.getElem?_toArray, List.getElem?_cons_zero, List.getElem?_cons_succ]; rfl))
      go_simp
      refine Calls.mono (keepi_true U4 (H5.out.2.2.2.2.1.nxt h54) (H5.out.2.2.1.nxt h54) (by omega)) ?_
      rintro e U5 ⟨rfl, hu5⟩
      have hS5 : S U5 := (show Below Z.heap.size Z U4 from hS4).trans (hu5.mono (show Below Z.heap.size Z U4 from hS4).size)
      refine hK.out _ _ hS5 (fun _ => ?_)
      clear hK K
      (try simp only [Act.put, List.setIfInBounds_toArray, List.set_cons_zero, List.set_cons_succ])
      change At 16 _
      iterate 2 (first | (apply tkA; (case hi => (simp only [List.getElem?_toArray, List.getElem?_cons_zero, List.getElem?_cons_succ]; rfl)); (case hw => rfl); (case hy => (intro w' hSw; (try simp only [S] at hSw); go_simp; (try with_reducible rfl))); (case hs => kernel_rfl); (case hf => kernel_rfl); (case hr => kernel_rfl); (case hQ => exact fun _ _ _ h => h); (case hS => assumption); (try simp only [Act.put, List.setIfInBounds_toArray, List.set_cons_zero, List.set_cons_succ, Nat.reduceAdd])) | (apply skA; (case hi => (simp only [List.getElem?_toArray, List.getElem?_cons_zero, List.getElem?_cons_succ]; rfl)); (case hw => rfl); (case hs => kernel_rfl); (case hf => kernel_rfl); (case hr => kernel_rfl); (case hQ => exact fun _ _ _ h => h); (case hS => assumption); (try simp only [Act.put, List.setIfInBounds_toArray, List.set_cons_zero, List.set_cons_succ, Nat.reduceAdd])))
      change wpAnyH _ _ _ _ _ _ _ _ _
      refine wpAnyH_ready (rs := [18]) (by kernel_rfl) (by simp) (AllReadyH.cons (o := ?oo18_12) ?hoo18_12 (fun K hK => ?steponly12) AllReadyH.nil); (case hoo18_12 => (simp only [List.getElem?_toArray, List.getElem?_cons_zero, List.getElem?_cons_succ]; rfl))
      go_simp
      refine Calls.mono (wakes17_any U5) ?_
      rintro e U6 ⟨rfl, hu6⟩
      have hS6 : S U6 := (show Below Z.heap.size Z U5 from hS5).trans (hu6.mono (show Below Z.heap.size Z U5 from hS5).size)
      refine hK.out _ _ hS6 (fun _ => ?_)
      clear hK K
      (try simp only [Act.put, List.setIfInBounds_toArray, List.set_cons_zero, List.set_cons_succ])
      change At 19 _
      iterate 2 (first | (apply tkA; (case hi => (simp only [List.getElem?_toArray, List.getElem?_cons_zero, List.getElem?_cons_succ]; rfl)); (case hw => rfl); (case hy => (intro w' hSw; (try simp only [S] at hSw); go_simp; (try with_reducible rfl))); (case hs => kernel_rfl); (case hf => kernel_rfl); (case hr => kernel_rfl); (case hQ => exact fun _ _ _ h => h); (case hS => assumption); (try simp only [Act.put, List.setIfInBounds_toArray, List.set_cons_zero, List.set_cons_succ, Nat.reduceAdd])) | (apply skA; (case hi => (simp only [List.getElem?_toArray, List.getElem?_cons_zero, List.getElem?_cons_succ]; rfl)); (case hw => rfl); (case hs => kernel_rfl); (case hf => kernel_rfl); (case hr => kernel_rfl); (case hQ => exact fun _ _ _ h => h); (case hS => assumption); (try simp only [Act.put, List.setIfInBounds_toArray, List.set_cons_zero, List.set_cons_succ, Nat.reduceAdd])))
      change wpAnyH _ _ _ _ _ _ _ _ _
      refine wpAnyH_done (by kernel_rfl) ?_ _
      have HE := Lib.hid (bNext H5.out.1 (bNext HZ.out hS6))
      clear hS0 hS1 hS2 hS3 hS4 hS5 hS6 hu4 hu5 hu6 h53 h54 r4
      go_wp2_with fail
      go_returns
      exact Ret.mk rfl HE.out
set_option maxRecDepth 100000 in
theorem breaksTell_walk {H : Type} {enc : TypeId × Value → H} {W : World} {base : Nat} {v0 v1 v2 : Value} {d0 d1 d2 : DataW H} {p0 p1 p2 : List MemPlace}
    (k0 : Value.okWide Try.prog W .any base 22 v0) (h0 : DataW.Trod enc Try.prog W 0 (fun _ => true) true 22 v0 d0 p0)
    (k1 : Value.okWide Try.prog W .any base 24 v1) (h1 : DataW.Trod enc Try.prog W 0 (fun _ => true) true 24 v1 d1 p1)
    (k2 : Value.okWide Try.prog W .any base 25 v2) (h2 : DataW.Trod enc Try.prog W 0 (fun _ => true) true 25 v2 d2 p2)
    : Calls Try.prog 3 #[v0, v1, v2] W fun e W' => e = .returned (.bool true) ∧ Below W.heap.size W W' := by
  obtain ⟨A, n, c, l, rfl, hl, hn, hc, -, hsl⟩ := open_items k0 h0
  obtain ⟨sw, sh, st, sc, si, rfl, -⟩ := open_style k1 h1
  obtain ⟨B, m, c', bs, rfl, hbl, hmc, hc', -, hbs, hbw⟩ := open_ints_sl (k := .i64) Try.underlying25 Try.underlying3 (by kernel_rfl) k2 h2
  exact breaksTell_core (by omega) (by omega) sw sh st sc si hsl ⟨fun x hx => wf64 (hbw x hx), hbl, hbs, hmc⟩
end Go.Proofs.Ytnojikbecohhfaa
