/- The walk over BreaksOver (s10/bkover.py writes it). -/
import Derived.Test.YtnojikbecohhfaaBkOvP
import Derived.Test.YtnojikbecohhfaaBkArg
namespace Go.Proofs.Ytnojikbecohhfaa
set_option linter.unusedSimpArgs false
set_option linter.unusedVariables false
open Go.RowKit Go.ChangeShapes Go.WideShapes Go.Sort

theorem elemItem : Elem Try.prog 53 6 56 := elem_of (z := .agg #[.int .i64 0, .int .i64 0, .int .i64 0, .int .i64 0, .int .i64 0, .string ⟨#[]⟩]) (by kernel_rfl) rfl (by omega)
theorem oneCell_encs (l : List It) : ∀ u ∈ encs l, u.oneCell' = true := by
  intro u hu
  simp only [encs, List.mem_flatMap, It.enc] at hu
  obtain ⟨x, _, hx⟩ := hu
  simp only [List.mem_cons, List.not_mem_nil, or_false] at hx
  rcases hx with rfl | rfl | rfl | rfl | rfl | rfl <;> rfl
theorem encs_snoc (l : List It) (x : It) : encs (l ++ [x]) = encs l ++ encs [x] := by simp [encs]
theorem item1 (x : It) (w : World) : (Instr.buildSlice 22 1 #[(0, .agg (ec x))]).run Try.prog w = .ok (.slice (some ⟨w.heap.size, 0, none⟩) 1 1) (w.alloc (.cells (ec x) 53)) := by
  obtain ⟨i, hi, hzz, hs⟩ := itZ.info
  have hs5 : i.size = 6 := hs
  refine run_buildSlice w _ 53 1 _ _ i _ Try.underlying22 hi hzz (by rw [hs5]; decide) (by rw [hs5]; decide) ?_
  rw [hs5]
  kernel_rfl
theorem built_sty9 (v : Int) : Try.prog.built 24 [(0, .int .i64 v), (1, .int .i64 9), (2, .int .i64 10000)] = some #[.int .i64 v, .int .i64 9, .int .i64 10000, .int .i64 0, .int .i64 0] := by kernel_rfl
attribute [-go_sem] Builtin.append_
attribute [-go_sem] Instr.buildSlice
set_option maxHeartbeats 16000000 in
set_option maxRecDepth 100000 in
theorem breaksOver_core {A : Option Addr} {n c : Nat} {bs : List Int} (h8 : ∀ x ∈ bs, 0 ≤ x ∧ x ≤ 255) (hlen : bs.length = n) (hm : n ≤ maxLen) (wv : Int) (hwv : 0 ≤ wv ∧ wv ≤ 255) {w : World} (h : Sl w w.heap.size 1 A n (bs.map (Value.int .u8))) :
    Calls Try.prog 7 #[.slice A n c, .int .u8 wv] w (Ret w (.bool true)) := by
  have hm' : (n : Int) ≤ 9223372036854775807 := by simp only [maxLen] at hm; omega
  have H1 := Lib.hid (And.intro h8 (And.intro hlen h))
  have HB0 := Lib.hid (Below.refl w.heap.size w)
  clear h8 hlen h hm
  go_enter Try.func7, Try.ntmps7
  by_cases h40 : 40 < n
  · have h40' : (40 : Int) < (n : Int) := by omega
    go_wp2_with fail
    refine Calls.mono (wakes17_any _) ?_
    rintro e U ⟨rfl, hbU⟩
    have HBF := Lib.hid (bNext HB0.out hbU)
    clear hbU
    go_wp2_with fail
    go_returns
    exact Ret.mk rfl HBF.out
  · have h40' : ¬ (40 : Int) < (n : Int) := by omega
    have hd40 : decide ((40 : Int) < (n : Int)) = false := decide_eq_false h40'
    by_cases h00 : n = 0
    · subst h00
      go_wp2_with fail
      refine Calls.mono (wakes17_any _) ?_
      rintro e U ⟨rfl, hbU⟩
      have HBF := Lib.hid (bNext HB0.out hbU)
      clear hbU
      go_wp2_with fail
      go_returns
      exact Ret.mk rfl HBF.out
    · have hn0 : ¬ (n : Int) = 0 := by omega
      have hd0 : ((n : Int) == 0) = false := beq_eq_false_iff_ne.2 hn0
      obtain ⟨W0, hW0⟩ : ∃ W0, 40 + wv % 100 = W0 := ⟨_, rfl⟩
      have hWr : 40 ≤ W0 ∧ W0 ≤ 139 := by omega
      have e1 : IntKind.i64.wrap wv = wv := wrap_small _ (by omega) (by omega)
      have e2 : wv.tmod 100 = wv % 100 := Int.tmod_eq_emod_of_nonneg hwv.1
      have e3 : IntKind.i64.wrap (wv % 100) = wv % 100 := wrap_small _ (by omega) (by omega)
      have e4 : IntKind.i64.wrap (40 + wv % 100) = W0 := by rw [hW0]; exact wrap_small _ (by omega) (by omega)
      have HW0 := Lib.hid hW0
      clear hW0
      have hstz := styZ
      have hstb := built_sty9 W0
      have hsi : (Try.prog.info? 24).map (·.size) = some (#[.int .i64 W0, .int .i64 9, .int .i64 10000, .int .i64 0, .int .i64 0] : Array Value).size := sty_size
      obtain ⟨Y, hY, y5, bY⟩ := newRow w #[.int .i64 0, .int .i64 0, .int .i64 0, .int .i64 0, .int .i64 0] #[.int .i64 W0, .int .i64 9, .int .i64 10000, .int .i64 0, .int .i64 0] 24
      go_upto_region 3 with (fail)
      refine wp_region_lit ?_
      iterate 12 (first | go_guarded | go_step)
      try rw [e4]
      refine wpList_built rfl 24 #[(0, .tmp 27), (1, .const (.int .i64 9)), (2, .const (.int .i64 10000))] rfl (cs := #[.int .i64 W0, .int .i64 9, .int .i64 10000, .int .i64 0, .int .i64 0]) (by simp only [List.map_toArray, List.map_cons, List.map_nil]; first | exact hstb | (go_simp; exact hstb)) ?_
      (try simp only [Act.put, List.setIfInBounds_toArray, List.set_cons_zero, List.set_cons_succ])
      refine wpList_new rfl hstz rfl ?_
      (try simp only [Act.put, List.setIfInBounds_toArray, List.set_cons_zero, List.set_cons_succ])
      refine wpList_store_row rfl 24 (.tmp 5) (.tmp 28) rfl _ #[.int .i64 W0, .int .i64 9, .int .i64 10000, .int .i64 0, .int .i64 0] rfl rfl _ #[.int .i64 0, .int .i64 0, .int .i64 0, .int .i64 0, .int .i64 0] (heap_alloc_new _ _) hsi rfl (by simp [Value.oneCell']) ?_
      (try simp only [Act.put, List.setIfInBounds_toArray, List.set_cons_zero, List.set_cons_succ])
      rw [hY]
      clear hY hstz hstb e1 e2 e3 e4
      obtain ⟨b5, hb5⟩ : ∃ q, w.heap.size = q := ⟨_, rfl⟩
      rw [hb5] at y5
      try rw [hb5]
      have l5 := (Array.getElem?_eq_some_iff.1 y5).1
      obtain ⟨ws, hws⟩ : ∃ q, bs.map (· + 1) = q := ⟨_, rfl⟩
      have hwl : ws.length = n := by rw [← hws, List.length_map]; exact H1.out.2.1
      have hwr : ∀ x ∈ ws, 1 ≤ x ∧ x ≤ 256 := by
        intro x hx
        rw [← hws] at hx
        obtain ⟨z, hz, rfl⟩ := List.mem_map.1 hx
        have := H1.out.1 z hz
        omega
      have H2 := Lib.hid (And.intro bY (And.intro y5 (And.intro hwl (And.intro hwr (H1.out.2.2.next bY)))))
      have HWS := Lib.hid hws
      have HN := Lib.hid (And.intro (acc_nn (exW_nn W0) ws) (acc_nn (wdW_nn W0) ws))
      have k50 : Y.cell? ⟨b5, 0, none⟩ = some (.int .i64 W0) := blk_cell y5 rfl
      have HK := Lib.hid k50
      clear bY hwl hwr hws y5 k50 hb5
      go_upto_region 7 with (fail)
      go_loopw [6, 7, 8, 9] (fun s6 s7 s8 s9 wr => ∃ (k : Nat) (L : List It) (A' : Option Addr) (c' : Nat) (cn en : Int), k ≤ n ∧ (k = 0 ∨ 1 ≤ L.length) ∧ L.length ≤ 2 * k ∧ (0 ≤ cn ∧ cn ≤ k) ∧ (0 ≤ en ∧ en ≤ 256 * (k : Int)) ∧ s6 = .slice A' L.length c' ∧ s7 = .int .i64 cn ∧ s8 = .int .i64 en ∧ s9 = .int .i64 k ∧ wr.ownsRow Y.heap.size 53 6 (.slice A' L.length c') L.length (encs L) ∧ Below Y.heap.size Y wr ∧ Hid (cn = acc (wdW W0) ws k ∧ en = acc (exW W0) ws k ∧ Wds L (ws.take k))) (fun _ _ _ i _ => n - (intOf i).toNat)
      case atStart => exact ⟨0, [], none, 0, 0, 0, by omega, .inl rfl, by simp, by omega, by omega, rfl, rfl, rfl, rfl, World.ownsRow_nil _ _ _ _, Below.refl _ _, Lib.hid ⟨rfl, rfl, Wds.nil⟩⟩
      case round =>
        obtain ⟨k, L, A', c', cn, en, hk, hL1, hL2, hcn, hen, rfl, rfl, rfl, rfl, hown, hbr, HX⟩ := hrel
        by_cases hkn : k < n
        · have hkn' : (k : Int) < (n : Int) := by omega
          obtain ⟨z, hz⟩ : ∃ z, bs[k]? = some z := ⟨_, List.getElem?_eq_getElem (by rw [H1.out.2.1]; exact hkn)⟩
          have hzr := H1.out.1 z (List.mem_of_getElem? hz)
          have hwz : ws[k]? = some (z + 1) := by rw [← HWS.out, List.getElem?_map, hz]; rfl
          have htk : ws.take (k + 1) = ws.take k ++ [z + 1] := by rw [List.take_add_one, hwz]; rfl
          obtain ⟨bP, oP, hAP, lP, hcz⟩ := H2.out.2.2.2.2.at_ (by omega)
          subst hAP
          have hcY : Y.cell? ⟨bP, oP + k, none⟩ = some (.int .u8 z) := hcz k _ (by rw [List.getElem?_map, hz]; rfl)
          have hk0' : (0 : Int) ≤ (k : Int) := by omega
          have f1 : IntKind.i64.wrap z = z := wrap_small _ (by omega) (by omega)
          have f2 : IntKind.i64.wrap (1 + z) = 1 + z := wrap_small _ (by omega) (by omega)
          have f3 : IntKind.i64.wrap (cn + 1) = cn + 1 := wrap_small _ (by omega) (by omega)
          have f4 : IntKind.i64.wrap (1 + z - W0) = 1 + z - W0 := IntWalk.i64_in _ (by omega)
          have f5 : IntKind.i64.wrap (en + (1 + z - W0)) = en + (1 + z - W0) := IntWalk.i64_in _ (by omega)
          have g1 : IntKind.i64.wrap ((k : Int) + 1) = ((k + 1 : Nat) : Int) := by rw [wrap_small _ (by omega) (by omega)]; omega
          have HZ := Lib.hid (And.intro hwz (And.intro htk (And.intro hcY lP)))
          clear hz hwz htk hcz hcY lP
          by_cases hk00 : k = 0
          · have hk1 : ¬ (0 : Int) < (k : Int) := by omega
            have HK0 := Lib.hid hk00
            clear hk00
            by_cases hwide : W0 < 1 + z
            · skip
              have hcw := (hbr.cell (p := ⟨bP, oP + k, none⟩) HZ.out.2.2.2).trans HZ.out.2.2.1
              have hk5 := (hbr.cell (p := ⟨b5, 0, none⟩) l5).trans HK.out
              have lbP : bP < wr.heap.size := by have := hbr.size; have := HZ.out.2.2.2; omega
              have lb5 : b5 < wr.heap.size := by have := hbr.size; omega
              go_upto_region 15 with (fail)
              clear hcw hk5 lbP lb5
              go_wp2_with fail
              refine Calls.mono (box_any (1 + z) tx _) ?_
              rintro e UB ⟨rfl, huB⟩
              have hownBa := own_below hown huB
              have hbiBa := hbr.trans (huB.mono hbr.size)
              clear huB
              simp only
              iterate 1 (first | go_guarded | go_step | skip)
              refine wpList_slice rfl 22 1 #[(0, .tmp 61)] rfl (by simp only [List.map_toArray, List.map_cons, List.map_nil]; exact item1 (wbox (1 + z) tx) UB) ?_
              (try simp only [Act.put, List.setIfInBounds_toArray, List.set_cons_zero, List.set_cons_succ])
              refine wpList_app _ rfl (.tmp 59) (.tmp 62) 22 rfl (base := Y.heap.size) Try.underlying22 elemItem rfl (hownBa.alloc _) rfl (Sl.new (sz := 6) (n := 1) (cs := ec (wbox (1 + z) tx)) (heap_alloc_new _ _) rfl) (oneCell_encs [(wbox (1 + z) tx)]) (by simp only [maxLen]; omega) (by omega) (by have := hbiBa.size; simp; omega) ?_
              intro AB cB wB hownBb hgB hbB hatB
              have hbiBb := (hbiBa.alloc hbiBa.size (.cells (ec (wbox (1 + z) tx)) 53)).trans hbB
              have hownB : wB.ownsRow Y.heap.size 53 6 (.slice AB (L.length + 1) cB) (L.length + 1) (encs (L ++ [(wbox (1 + z) tx)])) := by rw [encs_snoc]; exact hownBb
              clear hownBa hownBb hgB hbB hatB hbiBa
              (try simp only [Act.put, List.setIfInBounds_toArray, List.set_cons_zero, List.set_cons_succ])
              obtain ⟨hcn2, hen2, hWds⟩ := HX.out
              obtain ⟨hwz, htk, -⟩ := HZ.out
              have HN : Hid (cn + 1 = acc (wdW W0) ws (k + 1) ∧ en + (1 + z - W0) = acc (exW W0) ws (k + 1) ∧ Wds (L ++ [wbox (1 + z) tx]) (ws.take (k + 1))) := by
                refine Lib.hid ⟨?_, ?_, ?_⟩
                · rw [acc_next hwz, ← hcn2]; unfold wdW; rw [if_pos (by omega)]
                · rw [acc_next hwz, ← hen2]; unfold exW; rw [if_pos (by omega)]; omega
                · rw [htk]
                  obtain rfl : L = [] := List.eq_nil_of_length_eq_zero (by have := HK0.out; omega)
                  rw [HK0.out, List.take_zero, List.nil_append, List.nil_append, Int.add_comm 1 z]
                  exact Wds.first (z + 1)
              have HO := Lib.hid (And.intro hownB hbiBb)
              clear hownB hbiBb hcn2 hen2 hWds hwz htk HX HZ hown hbr
              go_wp2_with fail
              go_roundw
              case rel => exact ⟨k + 1, L ++ [wbox (1 + z) tx], AB, cB, cn + 1, en + (1 + z - W0), by omega, .inr (by simp), by simp only [List.length_append, List.length_cons, List.length_nil]; omega, by omega, by omega, by simp only [List.length_append, List.length_cons, List.length_nil], rfl, rfl, by go_num, by simpa only [List.length_append, List.length_cons, List.length_nil] using HO.out.1, HO.out.2, HN⟩
              case measure => simp [intOf]; omega
            · skip
              have hcw := (hbr.cell (p := ⟨bP, oP + k, none⟩) HZ.out.2.2.2).trans HZ.out.2.2.1
              have hk5 := (hbr.cell (p := ⟨b5, 0, none⟩) l5).trans HK.out
              have lbP : bP < wr.heap.size := by have := hbr.size; have := HZ.out.2.2.2; omega
              have lb5 : b5 < wr.heap.size := by have := hbr.size; omega
              go_upto_region 15 with (fail)
              clear hcw hk5 lbP lb5
              go_wp2_with fail
              refine Calls.mono (box_any (1 + z) tx _) ?_
              rintro e UB ⟨rfl, huB⟩
              have hownBa := own_below hown huB
              have hbiBa := hbr.trans (huB.mono hbr.size)
              clear huB
              simp only
              iterate 1 (first | go_guarded | go_step | skip)
              refine wpList_slice rfl 22 1 #[(0, .tmp 61)] rfl (by simp only [List.map_toArray, List.map_cons, List.map_nil]; exact item1 (wbox (1 + z) tx) UB) ?_
              (try simp only [Act.put, List.setIfInBounds_toArray, List.set_cons_zero, List.set_cons_succ])
              refine wpList_app _ rfl (.tmp 59) (.tmp 62) 22 rfl (base := Y.heap.size) Try.underlying22 elemItem rfl (hownBa.alloc _) rfl (Sl.new (sz := 6) (n := 1) (cs := ec (wbox (1 + z) tx)) (heap_alloc_new _ _) rfl) (oneCell_encs [(wbox (1 + z) tx)]) (by simp only [maxLen]; omega) (by omega) (by have := hbiBa.size; simp; omega) ?_
              intro AB cB wB hownBb hgB hbB hatB
              have hbiBb := (hbiBa.alloc hbiBa.size (.cells (ec (wbox (1 + z) tx)) 53)).trans hbB
              have hownB : wB.ownsRow Y.heap.size 53 6 (.slice AB (L.length + 1) cB) (L.length + 1) (encs (L ++ [(wbox (1 + z) tx)])) := by rw [encs_snoc]; exact hownBb
              clear hownBa hownBb hgB hbB hatB hbiBa
              (try simp only [Act.put, List.setIfInBounds_toArray, List.set_cons_zero, List.set_cons_succ])
              obtain ⟨hcn2, hen2, hWds⟩ := HX.out
              obtain ⟨hwz, htk, -⟩ := HZ.out
              have HN : Hid (cn = acc (wdW W0) ws (k + 1) ∧ en = acc (exW W0) ws (k + 1) ∧ Wds (L ++ [wbox (1 + z) tx]) (ws.take (k + 1))) := by
                refine Lib.hid ⟨?_, ?_, ?_⟩
                · rw [acc_next hwz, ← hcn2]; unfold wdW; rw [if_neg (by omega)]; omega
                · rw [acc_next hwz, ← hen2]; unfold exW; rw [if_neg (by omega)]; omega
                · rw [htk]
                  obtain rfl : L = [] := List.eq_nil_of_length_eq_zero (by have := HK0.out; omega)
                  rw [HK0.out, List.take_zero, List.nil_append, List.nil_append, Int.add_comm 1 z]
                  exact Wds.first (z + 1)
              have HO := Lib.hid (And.intro hownB hbiBb)
              clear hownB hbiBb hcn2 hen2 hWds hwz htk HX HZ hown hbr
              go_wp2_with fail
              go_roundw
              case rel => exact ⟨k + 1, L ++ [wbox (1 + z) tx], AB, cB, cn, en, by omega, .inr (by simp), by simp only [List.length_append, List.length_cons, List.length_nil]; omega, by omega, by omega, by simp only [List.length_append, List.length_cons, List.length_nil], rfl, rfl, by go_num, by simpa only [List.length_append, List.length_cons, List.length_nil] using HO.out.1, HO.out.2, HN⟩
              case measure => simp [intOf]; omega
          · have hk1 : (0 : Int) < (k : Int) := by omega
            have hL1' : 1 ≤ L.length := by omega
            go_upto_region 10 with (fail)
            go_wp2_with fail
            refine Calls.mono (space_any _) ?_
            rintro e US ⟨rfl, huS⟩
            have hownSa := own_below hown huS
            have hbiSa := hbr.trans (huS.mono hbr.size)
            clear huS
            simp only
            iterate 1 (first | go_guarded | go_step | skip)
            refine wpList_slice rfl 22 1 #[(0, .tmp 38)] rfl (by simp only [List.map_toArray, List.map_cons, List.map_nil]; exact item1 wsp US) ?_
            (try simp only [Act.put, List.setIfInBounds_toArray, List.set_cons_zero, List.set_cons_succ])
            refine wpList_app _ rfl (.tmp 37) (.tmp 39) 22 rfl (base := Y.heap.size) Try.underlying22 elemItem rfl (hownSa.alloc _) rfl (Sl.new (sz := 6) (n := 1) (cs := ec wsp) (heap_alloc_new _ _) rfl) (oneCell_encs [wsp]) (by simp only [maxLen]; omega) (by omega) (by have := hbiSa.size; simp; omega) ?_
            intro AS cS wS hownSb hgS hbS hatS
            have hbiSb := (hbiSa.alloc hbiSa.size (.cells (ec wsp) 53)).trans hbS
            have hownS : wS.ownsRow Y.heap.size 53 6 (.slice AS (L.length + 1) cS) (L.length + 1) (encs (L ++ [wsp])) := by rw [encs_snoc]; exact hownSb
            clear hownSa hownSb hgS hbS hatS hbiSa
            (try simp only [Act.put, List.setIfInBounds_toArray, List.set_cons_zero, List.set_cons_succ])
            have hbrS := hbiSb
            clear hown hbr hbiSb
            by_cases hwide : W0 < 1 + z
            · skip
              have hcw := (hbrS.cell (p := ⟨bP, oP + k, none⟩) HZ.out.2.2.2).trans HZ.out.2.2.1
              have hk5 := (hbrS.cell (p := ⟨b5, 0, none⟩) l5).trans HK.out
              have lbP : bP < wS.heap.size := by have := hbrS.size; have := HZ.out.2.2.2; omega
              have lb5 : b5 < wS.heap.size := by have := hbrS.size; omega
              go_upto_region 15 with (fail)
              clear hcw hk5 lbP lb5
              go_wp2_with fail
              refine Calls.mono (box_any (1 + z) tx _) ?_
              rintro e UB ⟨rfl, huB⟩
              have hownBa := own_below hownS huB
              have hbiBa := hbrS.trans (huB.mono hbrS.size)
              clear huB
              simp only
              iterate 1 (first | go_guarded | go_step | skip)
              refine wpList_slice rfl 22 1 #[(0, .tmp 61)] rfl (by simp only [List.map_toArray, List.map_cons, List.map_nil]; exact item1 (wbox (1 + z) tx) UB) ?_
              (try simp only [Act.put, List.setIfInBounds_toArray, List.set_cons_zero, List.set_cons_succ])
              refine wpList_app _ rfl (.tmp 59) (.tmp 62) 22 rfl (base := Y.heap.size) Try.underlying22 elemItem rfl (hownBa.alloc _) rfl (Sl.new (sz := 6) (n := 1) (cs := ec (wbox (1 + z) tx)) (heap_alloc_new _ _) rfl) (oneCell_encs [(wbox (1 + z) tx)]) (by simp only [maxLen]; omega) (by omega) (by have := hbiBa.size; simp; omega) ?_
              intro AB cB wB hownBb hgB hbB hatB
              have hbiBb := (hbiBa.alloc hbiBa.size (.cells (ec (wbox (1 + z) tx)) 53)).trans hbB
              have hownB : wB.ownsRow Y.heap.size 53 6 (.slice AB ((L.length + 1) + 1) cB) ((L.length + 1) + 1) (encs ((L ++ [wsp]) ++ [(wbox (1 + z) tx)])) := by rw [encs_snoc]; exact hownBb
              clear hownBa hownBb hgB hbB hatB hbiBa
              (try simp only [Act.put, List.setIfInBounds_toArray, List.set_cons_zero, List.set_cons_succ])
              obtain ⟨hcn2, hen2, hWds⟩ := HX.out
              obtain ⟨hwz, htk, -⟩ := HZ.out
              have HN : Hid (cn + 1 = acc (wdW W0) ws (k + 1) ∧ en + (1 + z - W0) = acc (exW W0) ws (k + 1) ∧ Wds (L ++ [wsp] ++ [wbox (1 + z) tx]) (ws.take (k + 1))) := by
                refine Lib.hid ⟨?_, ?_, ?_⟩
                · rw [acc_next hwz, ← hcn2]; unfold wdW; rw [if_pos (by omega)]
                · rw [acc_next hwz, ← hen2]; unfold exW; rw [if_pos (by omega)]; omega
                · rw [htk, Int.add_comm 1 z]
                  exact hWds.more (by rw [List.length_take]; have := H2.out.2.2.1; omega) (z + 1)
              have HO := Lib.hid (And.intro hownB hbiBb)
              clear hownB hbiBb hcn2 hen2 hWds hwz htk HX HZ hownS hbrS
              go_wp2_with fail
              go_roundw
              case rel => exact ⟨k + 1, L ++ [wsp] ++ [wbox (1 + z) tx], AB, cB, cn + 1, en + (1 + z - W0), by omega, .inr (by simp), by simp only [List.length_append, List.length_cons, List.length_nil]; omega, by omega, by omega, by simp only [List.length_append, List.length_cons, List.length_nil], rfl, rfl, by go_num, by simpa only [List.length_append, List.length_cons, List.length_nil] using HO.out.1, HO.out.2, HN⟩
              case measure => simp [intOf]; omega
            · skip
              have hcw := (hbrS.cell (p := ⟨bP, oP + k, none⟩) HZ.out.2.2.2).trans HZ.out.2.2.1
              have hk5 := (hbrS.cell (p := ⟨b5, 0, none⟩) l5).trans HK.out
              have lbP : bP < wS.heap.size := by have := hbrS.size; have := HZ.out.2.2.2; omega
              have lb5 : b5 < wS.heap.size := by have := hbrS.size; omega
              go_upto_region 15 with (fail)
              clear hcw hk5 lbP lb5
              go_wp2_with fail
              refine Calls.mono (box_any (1 + z) tx _) ?_
              rintro e UB ⟨rfl, huB⟩
              have hownBa := own_below hownS huB
              have hbiBa := hbrS.trans (huB.mono hbrS.size)
              clear huB
              simp only
              iterate 1 (first | go_guarded | go_step | skip)
              refine wpList_slice rfl 22 1 #[(0, .tmp 61)] rfl (by simp only [List.map_toArray, List.map_cons, List.map_nil]; exact item1 (wbox (1 + z) tx) UB) ?_
              (try simp only [Act.put, List.setIfInBounds_toArray, List.set_cons_zero, List.set_cons_succ])
              refine wpList_app _ rfl (.tmp 59) (.tmp 62) 22 rfl (base := Y.heap.size) Try.underlying22 elemItem rfl (hownBa.alloc _) rfl (Sl.new (sz := 6) (n := 1) (cs := ec (wbox (1 + z) tx)) (heap_alloc_new _ _) rfl) (oneCell_encs [(wbox (1 + z) tx)]) (by simp only [maxLen]; omega) (by omega) (by have := hbiBa.size; simp; omega) ?_
              intro AB cB wB hownBb hgB hbB hatB
              have hbiBb := (hbiBa.alloc hbiBa.size (.cells (ec (wbox (1 + z) tx)) 53)).trans hbB
              have hownB : wB.ownsRow Y.heap.size 53 6 (.slice AB ((L.length + 1) + 1) cB) ((L.length + 1) + 1) (encs ((L ++ [wsp]) ++ [(wbox (1 + z) tx)])) := by rw [encs_snoc]; exact hownBb
              clear hownBa hownBb hgB hbB hatB hbiBa
              (try simp only [Act.put, List.setIfInBounds_toArray, List.set_cons_zero, List.set_cons_succ])
              obtain ⟨hcn2, hen2, hWds⟩ := HX.out
              obtain ⟨hwz, htk, -⟩ := HZ.out
              have HN : Hid (cn = acc (wdW W0) ws (k + 1) ∧ en = acc (exW W0) ws (k + 1) ∧ Wds (L ++ [wsp] ++ [wbox (1 + z) tx]) (ws.take (k + 1))) := by
                refine Lib.hid ⟨?_, ?_, ?_⟩
                · rw [acc_next hwz, ← hcn2]; unfold wdW; rw [if_neg (by omega)]; omega
                · rw [acc_next hwz, ← hen2]; unfold exW; rw [if_neg (by omega)]; omega
                · rw [htk, Int.add_comm 1 z]
                  exact hWds.more (by rw [List.length_take]; have := H2.out.2.2.1; omega) (z + 1)
              have HO := Lib.hid (And.intro hownB hbiBb)
              clear hownB hbiBb hcn2 hen2 hWds hwz htk HX HZ hownS hbrS
              go_wp2_with fail
              go_roundw
              case rel => exact ⟨k + 1, L ++ [wsp] ++ [wbox (1 + z) tx], AB, cB, cn, en, by omega, .inr (by simp), by simp only [List.length_append, List.length_cons, List.length_nil]; omega, by omega, by omega, by simp only [List.length_append, List.length_cons, List.length_nil], rfl, rfl, by go_num, by simpa only [List.length_append, List.length_cons, List.length_nil] using HO.out.1, HO.out.2, HN⟩
              case measure => simp [intOf]; omega
        · obtain rfl : k = n := by omega
          have hkn' : ¬ (k : Int) < (k : Int) := by omega
          obtain ⟨hcn2, hen2, hWds⟩ := HX.out
          have hwl := H2.out.2.2.1
          rw [List.take_of_length_le (by omega)] at hWds
          have hov := hWds.over H2.out.2.2.2.1 (by omega) (by omega) hWr.1 (tl := 10000) (by omega)
          rw [hwl, ← hcn2, ← hen2] at hov
          have hlb := hWds.len
          obtain ⟨_, _, e', hcap, -⟩ := own_form hown
          cases e'
          have hsl := Sl.of_own hown
          have hBr := bNext H2.out.1 hbr
          have y5r := bBlk hbr l5 H2.out.2.1
          have e1 : cutS W0 = W0 := by unfold cutS cutZ; omega
          have e2 : cutS 10000 = 10000 := by unfold cutS cutZ; omega
          obtain ⟨m, hm⟩ : ∃ q, L.length = q := ⟨_, rfl⟩
          rw [hm] at hsl hlb ⊢
          have hm79 : m ≤ 79 := by omega
          have hbe := best_any (c := c') W0 9 10000 0 0 (by omega) wr hsl
          have htoA := fun (E : List Int) (A' : Option Addr) (q c2 : Nat) (U : World) (hb : Below wr.heap.size wr U) (he : IvAt U U.heap.size A' q c2 E) (hq : q ≤ 1000000) => total_any (c := c') (c' := c2) W0 9 10000 0 0 (by omega) hq U (hsl.next hb) he
          have hmaA := fun (E : List Int) (A' : Option Addr) (q c2 : Nat) (U : World) (hb : Below wr.heap.size wr U) (he : IvAt U U.heap.size A' q c2 E) (hq : q ≤ 1000000) => may_any (c := c') (c' := c2) W0 9 10000 0 0 (by omega) hq U (hsl.next hb) he
          simp only [e1, e2] at hbe htoA hmaA
          have hq9 : (bestP L W0 10000).ends.length ≤ 1000000 := by
            obtain ⟨all, -, g3, -⟩ := best_path (l := L) (wd := W0) (tl := 10000) (by omega) (by
              unfold bx
              have := hWds.fst_ (i := 0) (by omega)
              rw [show 2 * ((0 : Nat) : Int) - 1 = -1 from rfl] at this
              rw [this]
              exact decide_eq_true (by omega))
            have := srch_len g3
            rw [hWds.brks_ (by omega), List.length_map, List.length_range] at this
            omega
          obtain ⟨R, hR⟩ : ∃ q, bestP L W0 10000 = q := ⟨_, rfl⟩
          rw [hR] at hbe hov hq9
          unfold BestP wyv at hbe
          obtain ⟨o1, o2, o3, o4⟩ := hov
          have hq3 : R.total.tdiv 100000000000 = en := by rw [Int.tdiv_eq_ediv_of_nonneg o4]; exact o3
          have hq4 : IntKind.i64.wrap en = en := wrap_small _ (by omega) (by omega)
          have HC := Lib.hid (And.intro htoA (And.intro hmaA (And.intro o1 (And.intro o2 (And.intro hBr (And.intro hsl (And.intro y5r hq3)))))))
          have l5r := (Array.getElem?_eq_some_iff.1 y5r).1
          clear htoA hmaA o1 o2 o3 o4 hBr hsl hq3 hR hm hcn2 hen2 hWds hown hbr HX e1 e2 hlb hL1 hL2 hwl
          go_upto_region 16 with (fail)
          refine wp_region_lit ?_
          iterate 3 (first | go_guarded | go_step)
          (try simp only [Act.put, List.setIfInBounds_toArray, List.set_cons_zero, List.set_cons_succ])
          refine wpList_load_row rfl 24 (.tmp 5) rfl _ rfl _ #[.int .i64 W0, .int .i64 9, .int .i64 10000, .int .i64 0, .int .i64 0] (0, 0) _ y5r Try.underlying24 rfl hsi ?_
          (try simp only [Act.put, List.setIfInBounds_toArray, List.set_cons_zero, List.set_cons_succ])
          clear y5r
          go_wp2_with fail
          refine Calls.mono hbe ?_
          rintro e V3 ⟨A6, m6, c6, rfl, hiv, -, hb3⟩
          clear hbe
          have hwi : (Try.prog.info? 37).map (·.size) = some (#[Value.slice A6 m6 c6, .int .i64 R.total, .int .i64 R.over] : Array Value).size := wy_size
          have hwz := wyZ
          obtain ⟨Z, hZ, y11, bZ⟩ := newRow V3 wyz #[.slice A6 m6 c6, .int .i64 R.total, .int .i64 R.over] 37
          simp only
          iterate 1 (first | go_guarded | go_step | skip)
          refine wpList_new rfl hwz rfl ?_
          (try simp only [Act.put, List.setIfInBounds_toArray, List.set_cons_zero, List.set_cons_succ])
          refine wpList_store_row rfl 37 (.tmp 11) (.tmp 66) rfl _ #[.slice A6 m6 c6, .int .i64 R.total, .int .i64 R.over] rfl rfl _ wyz (heap_alloc_new _ _) hwi rfl (by simp [Value.oneCell']) ?_
          (try simp only [Act.put, List.setIfInBounds_toArray, List.set_cons_zero, List.set_cons_succ])
          rw [hZ]
          have hbZ := bNext hb3 bZ
          have hBZ := bNext HC.out.2.2.2.2.1 hbZ
          have y5Z := bBlk hbZ l5r HC.out.2.2.2.2.2.2.1
          have hivZ := hiv.nxt bZ
          obtain ⟨b11, hb11⟩ : ∃ q, V3.heap.size = q := ⟨_, rfl⟩
          rw [hb11] at y11
          try rw [hb11]
          have l11 := (Array.getElem?_eq_some_iff.1 y11).1
          have l5Z := (Array.getElem?_eq_some_iff.1 y5Z).1
          have hm6 : m6 ≤ 1000000 := by have := hivZ.len; omega
          have HZ := Lib.hid (And.intro hbZ (And.intro hBZ (And.intro y5Z (And.intro hivZ y11))))
          have hto := HC.out.1 _ _ _ _ Z hbZ hivZ hm6
          rw [HC.out.2.2.1] at hto
          simp only [totT, wkY, Option.isSome_some, Option.getD_some, if_true] at hto
          have k60 : Z.cell? ⟨b11, 0, none⟩ = some (.slice A6 m6 c6) := blk_cell y11 rfl
          clear hbZ hBZ hivZ y11 hZ hb3 bZ hiv hb11 hwz hwi
          go_wp2_with (first | (refine wpList_load_row rfl 24 (.tmp 5) rfl _ rfl _ #[.int .i64 W0, .int .i64 9, .int .i64 10000, .int .i64 0, .int .i64 0] (0, 0) _ y5Z Try.underlying24 rfl hsi ?_) | fail)
          refine Calls.mono hto ?_
          rintro e Z2 ⟨rfl, hb2⟩
          clear hto k60 y5Z
          have hb2V := bNext HZ.out.1 hb2
          have hB2 := bNext HZ.out.2.1 hb2
          have hiv2 := HZ.out.2.2.2.1.nxt hb2
          have hma := HC.out.2.1 _ _ _ _ Z2 hb2V hiv2 hm6
          rw [HC.out.2.2.1] at hma
          simp only [wkM, Option.getD_some] at hma
          have y52 := bBlk hb2 l5Z HZ.out.2.2.1
          have y112 := bBlk hb2 l11 HZ.out.2.2.2.2
          have k60 : Z2.cell? ⟨b11, 0, none⟩ = some (.slice A6 m6 c6) := blk_cell y112 rfl
          have k61 : Z2.cell? ⟨b11, 1, none⟩ = some (.int .i64 R.total) := blk_cell y112 rfl
          have k62 : Z2.cell? ⟨b11, 2, none⟩ = some (.int .i64 cn) := by rw [← HC.out.2.2.2.1]; exact blk_cell y112 rfl
          have l112 := (Array.getElem?_eq_some_iff.1 y112).1
          have l52 := (Array.getElem?_eq_some_iff.1 y52).1
          have hq3 := HC.out.2.2.2.2.2.2.2
          have hov : R.over = cn := HC.out.2.2.2.1
          try rw [hov]
          have HBF := Lib.hid hB2
          clear hb2V hB2 hiv2 y112 hb2 hov
          by_cases hc0 : cn = 0
          · rw [decide_eq_true hc0] at hma
            have HC0 := Lib.hid hc0
            clear hc0
            have hd0 : (cn == 0) = true := by rw [HC0.out]; rfl
            go_wp2_with (first | (refine wpList_load_row_g (by simp [Region.wanted, yielded, Act.put]) 24 (.tmp 5) rfl _ rfl _ #[.int .i64 W0, .int .i64 9, .int .i64 10000, .int .i64 0, .int .i64 0] (0, 0) _ y52 Try.underlying24 rfl hsi ?_) | fail)
            refine Calls.mono hma ?_
            rintro e Z3 ⟨rfl, hb3⟩
            clear hma k60 k61 k62 y52
            have HBF2 := Lib.hid (bNext HBF.out hb3)
            clear hb3
            go_wp2_with fail
            refine Calls.mono (wakes17_any _) ?_
            rintro e U ⟨rfl, hbU⟩
            have HBF := Lib.hid (bNext HBF2.out hbU)
            clear hbU
            go_wp2_with fail
            go_returns
            exact Ret.mk rfl HBF.out
          · rw [decide_eq_false hc0] at hma
            have hd0 : (cn == 0) = false := beq_eq_false_iff_ne.2 hc0
            go_wp2_with (first | (refine wpList_load_row_g (by simp [Region.wanted, yielded, Act.put]) 24 (.tmp 5) rfl _ rfl _ #[.int .i64 W0, .int .i64 9, .int .i64 10000, .int .i64 0, .int .i64 0] (0, 0) _ y52 Try.underlying24 rfl hsi ?_) | fail)
            refine Calls.mono hma ?_
            rintro e Z3 ⟨rfl, hb3⟩
            clear hma k60 k61 k62 y52
            have HBF2 := Lib.hid (bNext HBF.out hb3)
            clear hb3
            go_wp2_with fail
            refine Calls.mono (wakes17_any _) ?_
            rintro e U ⟨rfl, hbU⟩
            have HBF := Lib.hid (bNext HBF2.out hbU)
            clear hbU
            go_wp2_with fail
            go_returns
            exact Ret.mk rfl HBF.out

set_option maxRecDepth 100000 in
theorem breaksOver_walk {H : Type} {enc : TypeId × Value → H} {W : World} {base : Nat} {v0 v1 : Value} {d0 d1 : DataW H} {p0 p1 : List MemPlace}
    (k0 : Value.okWide Try.prog W .any base 51 v0) (h0 : DataW.Trod enc Try.prog W 0 (fun _ => true) true 51 v0 d0 p0)
    (k1 : Value.okWide Try.prog W .any base 5 v1) (h1 : DataW.Trod enc Try.prog W 0 (fun _ => true) true 5 v1 d1 p1)
    : Calls Try.prog 7 #[v0, v1] W fun e W' => e = .returned (.bool true) ∧ Below W.heap.size W W' := by
  obtain ⟨A, n, c, l, rfl, hl, hn, hc, -, hsl, hw⟩ := open_ints_sl (k := .u8) Try.underlying51 Try.underlying5 (by kernel_rfl) k0 h0
  obtain ⟨a, rfl, q1, q2, q3⟩ := open_int Try.underlying5 k1 h1
  exact breaksOver_core (fun x hx => wf_u8 (hw x hx)) hl (by omega) a (wf_u8 q3) hsl
end Go.Proofs.Ytnojikbecohhfaa
