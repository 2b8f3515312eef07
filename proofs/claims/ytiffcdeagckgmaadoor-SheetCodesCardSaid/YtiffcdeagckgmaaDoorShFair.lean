/- codexlaw19.Fair: lines that are not too many. -/
import Derived.Test.YtiffcdeagckgmaaDoorShMem
import Derived.Lib.MinMax
namespace Go.Proofs.YtiffcdeagckgmaaDoor
set_option linter.unusedSimpArgs false
set_option linter.unusedVariables false
open Go.RowKit Go.Sort

def FairP (n : Nat) (l : List (LN × List PC)) (w : World) (e : Ending) (w' : World) : Prop := ∃ b, e = .returned (.bool b) ∧ (b = true → n ≤ 400 ∧ ∀ r ∈ l, r.2.length ≤ 300) ∧ Below w.heap.size w w'
theorem pcZ : ZeroIs Tryd.prog 47 #[.int .i64 0, .string ⟨#[]⟩] := by unfold ZeroIs; kernel_rfl
set_option maxHeartbeats 16000000 in
set_option maxRecDepth 100000 in
theorem fair_any {A : Option Addr} {n c : Nat} {l : List (LN × List PC)} (w : World) (hl : RnAt w w.heap.size A n c l) (hc : c ≤ maxLen) :
    Calls Tryd.prog 7 #[.slice A n c] w (FairP n l w) := by
  have hln := hl.len
  have hnc := hl.ln.cap
  have hn63 : n ≤ maxLen := by omega
  simp only [maxLen] at hn63
  have HL := Lib.hid (And.intro hl hln)
  clear hl hln hc hnc
  have hpz := pcZ
  obtain ⟨zp, hzp⟩ : ∃ q : Array Value, #[.int .i64 0, .string ⟨#[]⟩] = q := ⟨_, rfl⟩
  have hz2 : zp.size = 2 := by rw [← hzp]; rfl
  rw [hzp] at hpz
  clear hzp
  go_enter Tryd.func7, Tryd.ntmps7
  go_wp2_with fail
  go_loopw [3, 4] (fun s3 s4 wr => ∃ (m k : Nat), m ≤ 3000 ∧ k ≤ n ∧ s3 = .int .i64 m ∧ s4 = .int .i64 k ∧ Below w.heap.size w wr ∧ (∀ j : Nat, j < k → ∀ r, l[j]? = some r → r.2.length ≤ 300)) (fun _ i _ => n - (intOf i).toNat)
  case atStart => exact ⟨0, 0, by omega, by omega, rfl, rfl, Below.refl _ _, fun j hj => absurd hj (by omega)⟩
  case round =>
    obtain ⟨m, k, hm, hk, rfl, rfl, hb, hok⟩ := hrel
    by_cases hlt : k < n
    · obtain ⟨r, hr⟩ : ∃ r, l[k]? = some r := ⟨_, List.getElem?_eq_getElem (by rw [HL.out.2]; exact hlt)⟩
      obtain ⟨b, o, A', n', c', rfl, hbB, hxr, hpv, hpc⟩ := HL.out.1.entry hr
      have hlt' : (k : Int) < (n : Int) := by omega
      have hk0 : (0 : Int) ≤ (k : Int) := by omega
      have hcells := ln_cells (bRange hb hbB hxr)
      have hc4 := hcells.2.2.2.2
      rw [hpv] at hc4
      have hbw : b < wr.heap.size := by have := hb.size; omega
      have hnl := hpc.len
      have hpvH := Lib.hid hpv
      have hcap' := hpc.cap
      have hmo' := hpc.most
      simp only [maxLen] at hmo'
      have HX := Lib.hid (And.intro hr (And.intro hok (And.intro hb (And.intro hpc hnl))))
      clear hr hok hpc hcells hxr hpv hb hnl
      by_cases h300 : 300 < n'
      · have h300' : (300 : Int) < (n' : Int) := by omega
        go_wp2_with fail
        go_ret
        exact ⟨false, rfl, fun h => (by cases h), HX.out.2.2.1⟩
      · have h300' : ¬ (300 : Int) < (n' : Int) := by omega
        go_upto_region 7 with (fail)
        go_wp2_with fail
        rename World => wo
        go_loopw [3, 5] (fun s3 s5 wr => ∃ (m i : Nat), m ≤ 3000 ∧ i ≤ n' ∧ s3 = .int .i64 m ∧ s5 = .int .i64 i ∧ Below w.heap.size w wr) (fun _ i _ => n' - (intOf i).toNat)
        case atStart => exact ⟨m, 0, hm, by omega, rfl, rfl, HX.out.2.2.1⟩
        case round =>
          obtain ⟨m, i, hm, hi, rfl, rfl, hbi⟩ := hrel
          obtain ⟨b3, o3, A3, n3, c3, hA3, hbB3, hxr3, hpv3, hpc3⟩ := HL.out.1.entry HX.out.1
          cases hA3
          have hc43 := (ln_cells (bRange hbi hbB hxr3)).2.2.2.2
          rw [hpv3] at hc43
          have hPC := HX.out.2.2.2.1
          have e43 : (Value.slice A3 n3 c3) = .slice A' n' c' := by
            have h1 := HL.out.1.pc r (List.mem_of_getElem? HX.out.1)
            rw [← hpv3, ← hpvH.out]
          rw [e43] at hc43
          clear hxr3 hpv3 hpc3 e43 hc4
          have hbw : b < wr.heap.size := by have := hbi.size; omega
          by_cases hin : i < n'
          · obtain ⟨p, hp⟩ : ∃ p, r.2[i]? = some p := ⟨_, List.getElem?_eq_getElem (by rw [HX.out.2.2.2.2]; exact hin)⟩
            obtain ⟨b2, o2, rfl, hb2, hxr2⟩ := hPC.entry hp
            have hxr := bRange hbi hb2 hxr2
            have hpx := hPC.wide p (List.mem_of_getElem? hp)
            have hin' : (i : Int) < (n' : Int) := by omega
            have hi0 : (0 : Int) ≤ (i : Int) := by omega
            have hpi : (Tryd.prog.info? 47).map (·.size) = some p.cells.length := pc_size
            have hpa : (Tryd.prog.info? 47).map (·.size) = some p.cells.toArray.size := pc_size
            have hpo : p.cells.toArray.all (·.oneCell') = true := by simp [PC.cells, Value.oneCell']
            have hps : zp.size = p.cells.toArray.size := by rw [hz2]; rfl
            obtain ⟨Y, hY, y6, bY⟩ := newRow wr zp p.cells.toArray 47
            have k0 : Y.cell? ⟨wr.heap.size, 0, none⟩ = some (.int .i64 p.x) := blk_cell y6 rfl
            have k1 : Y.cell? ⟨wr.heap.size, 1, none⟩ = some (.string p.s) := blk_cell y6 rfl
            have hlY : wr.heap.size < Y.heap.size := (Array.getElem?_eq_some_iff.1 y6).1
            obtain ⟨q, hq⟩ : ∃ q : Nat, (m : Int) + min (p.s.size : Int) 3001 = (q : Int) := ⟨((m : Int) + min (p.s.size : Int) 3001).toNat, by omega⟩
            have hq9 : q ≤ 6001 := by omega
            have g1 : IntKind.i64.wrap ((m : Int) + min (p.s.size : Int) 3001) = (q : Int) := by rw [hq]; exact wrap_small _ (by omega) (by omega)
            have g2 : IntKind.i64.wrap ((i : Int) + 1) = ((i + 1 : Nat) : Int) := by rw [wrap_small _ (by omega) (by omega)]; omega
            have HB := Lib.hid (bNext (by exact hbi) (bY.mono (Nat.le_refl _)))
            clear hq hxr2 hPC bY y6 hbi
            obtain ⟨pc, hpc⟩ : ∃ q, p.cells = q := ⟨_, rfl⟩
            rw [hpc] at hY hpi hpa hpo hps hxr
            obtain ⟨px, hpxe⟩ : ∃ q, p.x = q := ⟨_, rfl⟩
            rw [hpxe] at k0 hpx
            clear hpc hpxe
            go_upto_region 10 with (fail)
            go_upto_region 11 with (first
              | (refine wpList_load_mid rfl 47 (.tmp 36) rfl b2 (o2 + i * 2) rfl pc _ hxr Tryd.underlying47 rfl hpi ?_)
              | (refine wpList_new rfl hpz rfl ?_)
              | (refine wpList_store_row rfl 47 (.tmp 6) (.tmp 37) rfl _ pc.toArray rfl rfl _ zp (heap_alloc_new _ _) hpa hps hpo ?_)
              | fail)
            try rw [hY]
            clear hY hxr hpi hpa hpo hps hc43 hp
            go_upto_region 12 with (fail)
            by_cases h3 : 3000 < q
            · have h3' : (3000 : Int) < (q : Int) := by omega
              go_wp2_with fail
              go_ret
              exact ⟨false, rfl, fun h => (by cases h), HB.out⟩
            · have h3' : ¬ (3000 : Int) < (q : Int) := by omega
              by_cases h5 : 1099511627776 < px
              · go_wp2_with fail
                go_ret
                exact ⟨false, rfl, fun h => (by cases h), HB.out⟩
              · by_cases h6 : px < -1099511627776
                · go_wp2_with fail
                  go_ret
                  exact ⟨false, rfl, fun h => (by cases h), HB.out⟩
                · go_wp2_with fail
                  go_roundw
                  case rel => exact ⟨q, i + 1, by omega, by omega, rfl, by go_num, HB.out⟩
                  case measure => simp [intOf]; omega
          · have hin' : ¬ (i : Int) < (n' : Int) := by omega
            have g1 : IntKind.i64.wrap ((k : Int) + 1) = ((k + 1 : Nat) : Int) := by rw [wrap_small _ (by omega) (by omega)]; omega
            have HB := Lib.hid hbi
            clear hbi hPC
            go_wp2_with fail
            go_roundw
            case rel =>
              refine ⟨m, k + 1, by omega, by omega, rfl, by go_num, HB.out, fun j hj r' hr' => ?_⟩
              rcases Nat.lt_or_ge j k with h | h
              · exact HX.out.2.1 j h r' hr'
              · obtain rfl : j = k := by omega
                have h1 := HX.out.1
                rw [hr'] at h1
                injection h1 with h1
                subst h1
                rw [HX.out.2.2.2.2]
                omega
            case measure => simp [intOf]; omega
    · obtain rfl : k = n := by omega
      have hlt' : ¬ (k : Int) < (k : Int) := by omega
      have HX := Lib.hid (And.intro hok hb)
      clear hok hb
      by_cases h4 : k ≤ 400
      · have h4' : (k : Int) ≤ 400 := by omega
        go_wp2_with fail
        go_ret
        exact ⟨true, ret_bool (by simp), fun _ => ⟨h4, fun r hr => by
          obtain ⟨j, hj, rfl⟩ := List.getElem_of_mem hr
          exact HX.out.1 j (by rw [← HL.out.2]; exact hj) _ (List.getElem?_eq_getElem hj)⟩, HX.out.2⟩
      · have h4' : ¬ (k : Int) ≤ 400 := by omega
        go_wp2_with fail
        go_ret
        exact ⟨false, ret_bool (by simp), fun h => (by cases h), HX.out.2⟩
end Go.Proofs.YtiffcdeagckgmaaDoor
